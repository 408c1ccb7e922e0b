/-
  Shelf, RecFn, ScrChk, SlcCat, RecSort, packed: what the claim needs of them.
-/
import Derived.Shelf.SlGeneric
import Derived.Shelf.SlSortCmp.WholeK
import Derived.Shelf.SlSortCmp.NoneTotal
import Derived.Ground.SlsfProg
import Derived.Shelf.SlicesQ.IndexFunc
import Derived.Ground.SlgfProg
import Derived.Test.YtpmpjjhchkoboaaGreatDoorProg
import Derived.Test.YtpmpjjhchkoboaaGreatDoorPc23
import Derived.Test.YtpmpjjhchkoboaaGreatDoorPc22
import Derived.Test.YtpmpjjhchkoboaaGreatDoorPc11
open Go.Lib (hid)
set_option maxHeartbeats 400000
set_option linter.unusedSimpArgs false
set_option linter.unusedVariables false
set_option maxRecDepth 100000
namespace Go.Proofs.YtpmpjjhchkoboaaGreatDoor
open Go.Shelf Go.Proofs
def Tryz.sortM_ren : Go.Shelf.Ren := ⟨fun | 6 => 120 | 15 => 140 | 14 => 139 | 28 => 160 | 29 => 161 | 20 => 152 | 21 => 153 | 22 => 154 | 23 => 155 | 24 => 156 | 25 => 157 | 26 => 158 | 27 => 159 | 46 => 169 | 47 => 170 | 48 => 171 | 49 => 172 | 50 => 173 | 57 => 180 | n => n, fun | 22 => 52 | 24 => 55 | 25 => 154 | 3 => 3 | 39 => 138 | 0 => 0 | 53 => 187 | 55 => 159 | 4 => 4 | 46 => 180 | 45 => 179 | 50 => 184 | 5 => 5 | 9 => 9 | 66 => 194 | 70 => 198 | 76 => 204 | 77 => 205 | n => n, fun | n => n⟩
theorem Tryz.sortM : Go.Proofs.SlLaysF0.n6 Tryz.prog Tryz.sortM_ren := {
 mixed := by kernel_rfl
 f6 := ⟨Tryz.f120.name, by decide, Tryz.func120.trans (congrArg some (by kernel_rfl))⟩
 f14 := ⟨Tryz.f139.name, by decide, Tryz.func139.trans (congrArg some (by kernel_rfl))⟩
 f15 := Tryz.func140.trans (congrArg some (by kernel_rfl))
 f20 := ⟨Tryz.f152.name, by decide, Tryz.func152.trans (congrArg some (by kernel_rfl))⟩
 f21 := ⟨Tryz.f153.name, by decide, Tryz.func153.trans (congrArg some (by kernel_rfl))⟩
 f22 := ⟨Tryz.f154.name, by decide, Tryz.func154.trans (congrArg some (by kernel_rfl))⟩
 f23 := ⟨Tryz.f155.name, by decide, Tryz.func155.trans (congrArg some (by kernel_rfl))⟩
 f24 := ⟨Tryz.f156.name, by decide, Tryz.func156.trans (congrArg some (by kernel_rfl))⟩
 f25 := ⟨Tryz.f157.name, by decide, Tryz.func157.trans (congrArg some (by kernel_rfl))⟩
 f26 := ⟨Tryz.f158.name, by decide, Tryz.func158.trans (congrArg some (by kernel_rfl))⟩
 f27 := ⟨Tryz.f159.name, by decide, Tryz.func159.trans (congrArg some (by kernel_rfl))⟩
 f28 := Tryz.func160.trans (congrArg some (by kernel_rfl))
 f29 := Tryz.func161.trans (congrArg some (by kernel_rfl))
 f46 := ⟨Tryz.f169.name, by decide, Tryz.func169.trans (congrArg some (by kernel_rfl))⟩
 f47 := Tryz.func170.trans (congrArg some (by kernel_rfl))
 f48 := Tryz.func171.trans (congrArg some (by kernel_rfl))
 f49 := ⟨Tryz.f172.name, by decide, Tryz.func172.trans (congrArg some (by kernel_rfl))⟩
 f50 := ⟨Tryz.f173.name, by decide, Tryz.func173.trans (congrArg some (by kernel_rfl))⟩
 f57 := ⟨Tryz.f180.name, by decide, Tryz.func180.trans (congrArg some (by kernel_rfl))⟩
 t0 := Tryz.underlying0
 a0 := Tryz.isAgg0
 z0 := Tryz.sizeOf0
 v0 := Tryz.zeroValue0
 t3 := Tryz.underlying3
 a3 := Tryz.isAgg3
 z3 := Tryz.sizeOf3
 v3 := Tryz.zeroValue3
 t4 := Tryz.underlying4
 a4 := Tryz.isAgg4
 z4 := Tryz.sizeOf4
 v4 := Tryz.zeroValue4
 t5 := Tryz.underlying5
 a5 := Tryz.isAgg5
 z5 := Tryz.sizeOf5
 v5 := Tryz.zeroValue5
 t9 := Tryz.underlying9
 a9 := Tryz.isAgg9
 z9 := Tryz.sizeOf9
 v9 := Tryz.zeroValue9
 t22 := Tryz.underlying52
 a22 := Tryz.isAgg52
 z22 := Tryz.sizeOf52
 v22 := Tryz.zeroValue52
 t25 := Tryz.underlying154
 a25 := Tryz.isAgg154
 z25 := Tryz.sizeOf154
 v25 := Tryz.zeroValue154
 t39 := Tryz.underlying138
 a39 := Tryz.isAgg138
 z39 := Tryz.sizeOf138
 v39 := Tryz.zeroValue138
 t45 := Tryz.underlying179
 a45 := Tryz.isAgg179
 z45 := Tryz.sizeOf179
 v45 := Tryz.zeroValue179
 t46 := Tryz.underlying180
 a46 := Tryz.isAgg180
 z46 := Tryz.sizeOf180
 v46 := Tryz.zeroValue180
 t50 := Tryz.underlying184
 a50 := Tryz.isAgg184
 z50 := Tryz.sizeOf184
 v50 := Tryz.zeroValue184
 t53 := Tryz.underlying187
 a53 := Tryz.isAgg187
 z53 := Tryz.sizeOf187
 v53 := Tryz.zeroValue187
 t55 := Tryz.underlying159
 a55 := Tryz.isAgg159
 z55 := Tryz.sizeOf159
 v55 := Tryz.zeroValue159
 t66 := Tryz.underlying194
 a66 := Tryz.isAgg194
 z66 := Tryz.sizeOf194
 v66 := Tryz.zeroValue194
 t70 := Tryz.underlying198
 a70 := Tryz.isAgg198
 z70 := Tryz.sizeOf198
 v70 := Tryz.zeroValue198
 t76 := Tryz.underlying204
 a76 := Tryz.isAgg204
 z76 := Tryz.sizeOf204
 v76 := Tryz.zeroValue204
 t77 := Tryz.underlying205
 a77 := Tryz.isAgg205
 z77 := Tryz.sizeOf205
 v77 := Tryz.zeroValue205 }
def Tryz.contains_ren : Go.Shelf.Ren := ⟨fun | 8 => 127 | 6 => 143 | n => n, fun | 22 => 52 | 23 => 55 | 25 => 128 | 4 => 4 | 3 => 3 | 0 => 0 | n => n, fun | n => n⟩
theorem Tryz.contains : Go.Proofs.SlLaysH0.n8 Tryz.prog Tryz.contains_ren := {
 mixed := by kernel_rfl
 f6 := ⟨Tryz.f143.name, by decide, Tryz.func143.trans (congrArg some (by kernel_rfl))⟩
 f8 := ⟨Tryz.f127.name, by decide, Tryz.func127.trans (congrArg some (by kernel_rfl))⟩
 t0 := Tryz.underlying0
 a0 := Tryz.isAgg0
 z0 := Tryz.sizeOf0
 v0 := Tryz.zeroValue0
 t3 := Tryz.underlying3
 a3 := Tryz.isAgg3
 z3 := Tryz.sizeOf3
 v3 := Tryz.zeroValue3
 t4 := Tryz.underlying4
 a4 := Tryz.isAgg4
 z4 := Tryz.sizeOf4
 v4 := Tryz.zeroValue4
 t22 := Tryz.underlying52
 a22 := Tryz.isAgg52
 z22 := Tryz.sizeOf52
 v22 := Tryz.zeroValue52
 t25 := Tryz.underlying128
 a25 := Tryz.isAgg128
 z25 := Tryz.sizeOf128
 v25 := Tryz.zeroValue128 }
end Go.Proofs.YtpmpjjhchkoboaaGreatDoor
namespace Go.Proofs.YtpmpjjhchkoboaaGreatDoor
open Go.RowKit Go.Ox Go.Shelf
theorem index0_any (A : Option Addr) (c : Nat) (f : Value) (w : World) :
 Calls Tryz.prog 143 #[.slice A 0 c, f] w fun e w' => e = .returned (.int .i64 (-1)) ∧ w = w' := by
 go_enter Tryz.func143, Tryz.ntmps143
 go_wp2
 go_loop [8] (fun i => i = .int .i64 0) (fun _ => 0)
 case atStart => rfl
 case round =>
  subst hrel
  go_wp2
  go_ret
  exact ⟨rfl, rfl⟩
theorem contains0_any (A : Option Addr) (c : Nat) (f : Value) (w : World) :
 Calls Tryz.prog 127 #[.slice A 0 c, f] w fun e w' => e = .returned (.bool false) ∧ w = w' := by
 go_enter Tryz.func127, Tryz.ntmps127
 go_wp2_with (go_at_call 143; refine (index0_any _ _ _ _).mono ?_; rintro e w' ⟨rfl, rfl⟩)
 go_ret
 exact ⟨rfl, rfl⟩
theorem containsF_any (p : Mom.M → Bool) (g : Nat) (lb : Array Value) (eg : ∀ args w, (callFunc g args).run Tryz.prog w = .ok (.enter g args) w) (v : Value) (l : List Mom.M) (w : World) (hv : RP w v l)
 (hp : PredBelow Tryz.prog g lb (fun x => .agg (encM x).toArray) p w) (hl : l.length ≤ 1000000000) :
 Calls Tryz.prog 127 #[v, .func (.func g) #[] lb] w fun e w' => e = .returned (.bool (l.any p)) ∧ Ext w w' := by
 obtain ⟨A, c, rfl⟩ := hv.form
 by_cases h0 : l.length = 0
 · obtain rfl := List.eq_nil_of_length_eq_zero h0
   exact (contains0_any A c _ w).mono fun e w' ⟨h1, h2⟩ => ⟨h1, by subst h2; exact Ext.refl _⟩
 · obtain ⟨b, o, rfl, hc, _⟩ := hv.at_ (k := 0) (by omega)
   have hcon := AnyQ.slices_ContainsFunc Tryz.contains 2 Tryz.isAgg55 Tryz.sizeOf55 encM (fun _ => rfl) p g lb eg b o l.length c l w hp (Nat.le_refl _) (by omega) (World.block_lt_of_cell? w _ hc) (fun j hj i u hi => by
    obtain ⟨b', o', he, h1, h2⟩ := hv.at_ hj
    injection he with he
    injection he with e1 e2
    subst e1 e2
    have hg : l[j]! = l[j] := getElem!_pos l j hj
    rw [hg] at hi
    match i, hi with
    | 0, hi => simp at hi; rw [← hi]; exact h1
    | 1, hi => simp at hi; rw [← hi]; exact h2
    | i + 2, hi => simp at hi)
   rw [List.take_length] at hcon
   exact hcon
theorem may1_gives (w : World) : PredBelow Tryz.prog 128 #[] (fun x => .agg (encM x).toArray) (fun x => !Rec.ok x) w := fun W x hb => by
 show Calls Tryz.prog 128 #[mV x] W _
 have HC := hid (fun w => check_any x w)
 obtain ⟨a, b⟩ := x
 dsimp only at *
 cases hq : Rec.ok (a, b) with
 | true =>
  rw [hq, if_pos rfl] at HC
  go_enter Tryz.func128, Tryz.ntmps128
  go_wp2_with (go_at_call 117; refine (HC.out _).mono ?_; rintro e w1 ⟨rfl, he1⟩)
  go_ret
  exact ⟨rfl, hb.trans (((Ext.refl _).alloc _ |>.trans he1).mono hb.size)⟩
 | false =>
  rw [hq, if_neg (by simp)] at HC
  go_enter Tryz.func128, Tryz.ntmps128
  go_wp2_with (go_at_call 117; refine (HC.out _).mono ?_; rintro e w1 ⟨rfl, he1⟩)
  go_ret
  exact ⟨rfl, hb.trans (((Ext.refl _).alloc _ |>.trans he1).mono hb.size)⟩
theorem cloneM_any (v : Value) (l : List Mom.M) (w : World) (hb : RP w v l) (hl : l.length ≤ 1000000000) :
 Calls Tryz.prog 119 #[v] w fun e w' => ∃ v', e = .returned v' ∧ OP 55 w.heap.size w' v' l ∧ Ext w w' := by
 have HB := hid hb
 obtain ⟨A, c, rfl⟩ := hb.form
 have hnc := hb.nc
 have he := eqlNilM
 have HE := he
 cases A with
 | none =>
  obtain ⟨A', c', he', hrd⟩ := hb
  injection he' with e1 e2 e3
  subst e1 e3
  have h0 := hrd.nil rfl
  have hn : l.length = 0 := by omega
  obtain rfl := List.eq_nil_of_length_eq_zero hn
  subst h0
  clear hrd hn hnc
  go_enter Tryz.func119, Tryz.ntmps119
  go_wp2
  go_ret
  exact ⟨_, rfl, OP.nilS _ _ _, Ext.refl _⟩
 | some ad =>
  clear hb hnc
  have hown : (w.alloc (.cells #[] 55)).ownsRow w.heap.size 55 2 (.slice (some ⟨w.heap.size, 0, none⟩) 0 0) 0 [] :=
   World.ownsRow_lit w #[] 0 (Nat.le_refl _) (by unfold maxLen; omega) rfl
  have HO := hid hown
  clear hown
  go_enter Tryz.func119, Tryz.ntmps119
  go_wp2_with (at_builtin; refine wpList_app rfl elemM _ _ _ rfl w.heap.size _ 0 [] rfl HO.out _ l.length (pV l) rfl (HB.out.ext ((Ext.refl _).alloc _)) (one_pV l) (by omega) (by unfold maxLen; omega) (by simp) ?_; intro v' w' ha)
  go_ret
  exact ⟨_, rfl, OP.of0 ha.own, ha.ext ((Ext.refl _).alloc _) rfl HO.out⟩
theorem may_any (v : Value) (l : List Rec.R) (w : World) (hv : RP w v l) (hl : l.length ≤ 1000000) :
 Calls Tryz.prog 86 #[v] w fun e w' => e = .returned (.int .i64 (Rec.may l)) ∧ Ext w w' := by
 have eg : ∀ args w, (callFunc 128 args).run Tryz.prog w = .ok (.enter 128 args) w := enters_of Tryz.func128 (by kernel_rfl) rfl
 have HC := hid (containsF_any (fun x => !Rec.ok x) 128 #[] eg v l w hv (may1_gives w) (by omega))
 obtain ⟨A, c, rfl⟩ := hv.form
 unfold Rec.may
 cases hb : l.any fun x => !Rec.ok x with
 | true =>
  rw [hb] at HC
  rw [if_pos rfl]
  clear eg hv hb
  go_enter Tryz.func86, Tryz.ntmps86
  go_wp2_with fail
  refine HC.out.mono ?_
  rintro e w1 ⟨rfl, he1⟩
  go_wp2
  go_ret
  exact ⟨rfl, he1⟩
 | false =>
  rw [hb] at HC
  rw [if_neg (by simp)]
  clear eg hv hb
  by_cases h2 : 4096 < l.length
  · have g : (4096 : Int) < (l.length : Int) := by omega
    rw [if_pos h2]
    clear h2
    go_enter Tryz.func86, Tryz.ntmps86
    go_wp2_with fail
    refine HC.out.mono ?_
    rintro e w1 ⟨rfl, he1⟩
    go_wp2
    go_ret
    exact ⟨rfl, he1⟩
  · have g : ¬ (4096 : Int) < (l.length : Int) := by omega
    rw [if_neg h2]
    clear h2
    go_enter Tryz.func86, Tryz.ntmps86
    go_wp2_with fail
    refine HC.out.mono ?_
    rintro e w1 ⟨rfl, he1⟩
    go_wp2
    go_ret
    exact ⟨rfl, he1⟩
end Go.Proofs.YtpmpjjhchkoboaaGreatDoor
namespace Go.Proofs.YtpmpjjhchkoboaaGreatDoor
open Go.RowKit Go.Ox Go.Ox.Gr Go.Ox.Sc
attribute [local irreducible] RE OE EpR InsR ActsR RP NodesR
structure Bx8 (w : World) (p : Nat) (T : TypeId) (c0 c1 c2 c3 c4 c5 c6 c7 : Value) : Prop where
 b : Blk w p T #[c0, c1, c2, c3, c4, c5, c6, c7]
section
variable {w w' : World} {p : Nat} {T : TypeId} {c0 c1 c2 c3 c4 c5 c6 c7 : Value}
theorem Bx8.at_ (h : Bx8 w p T c0 c1 c2 c3 c4 c5 c6 c7) :
 w.cell? ⟨p, 0, none⟩ = some c0 ∧ w.cell? ⟨p, 1, none⟩ = some c1 ∧ w.cell? ⟨p, 2, none⟩ = some c2 ∧ w.cell? ⟨p, 3, none⟩ = some c3 ∧ w.cell? ⟨p, 4, none⟩ = some c4 ∧ w.cell? ⟨p, 5, none⟩ = some c5 ∧ w.cell? ⟨p, 6, none⟩ = some c6 ∧ w.cell? ⟨p, 7, none⟩ = some c7 :=
 ⟨h.b.cell 0, h.b.cell 1, h.b.cell 2, h.b.cell 3, h.b.cell 4, h.b.cell 5, h.b.cell 6, h.b.cell 7⟩
theorem Bx8.ext (h : Bx8 w p T c0 c1 c2 c3 c4 c5 c6 c7) (he : Ext w w') : Bx8 w' p T c0 c1 c2 c3 c4 c5 c6 c7 := ⟨h.b.ext he⟩
theorem Bx8.new (w : World) (T : TypeId) (c0 c1 c2 c3 c4 c5 c6 c7 : Value) : Bx8 (w.alloc (.cells #[c0, c1, c2, c3, c4, c5, c6, c7] T)) w.heap.size T c0 c1 c2 c3 c4 c5 c6 c7 := ⟨Blk.new _ _ _⟩
end
abbrev scCs (k0 k1 k2 k3 nv : Value) (out : Int) (iv av : Value) : Obj := .cells #[k0, k1, k2, k3, nv, .int .i64 out, iv, av] 30
theorem oddBag_any (u : Value) (b : Bag) (w : World) (hu : RP w u b) (hl : b.length ≤ 1000000) :
 Calls Tryz.prog 85 #[u] w fun e w' => e = .returned (.bool (Rec.may b != 0)) ∧ Ext w w' := by
 have HC := hid (may_any u b w hu hl)
 obtain ⟨A, c, rfl⟩ := hu.form
 generalize Rec.may b = m at *
 obtain ⟨y, hy⟩ : ∃ y, (m != 0) = y := ⟨_, rfl⟩
 rw [hy]
 clear hu hl
 go_enter Tryz.func85, Tryz.ntmps85
 go_wp2_with fail
 refine HC.out.mono ?_
 rintro e w1 ⟨rfl, he1⟩
 go_wp2
 go_ret
 exact ⟨rfl, he1⟩
theorem epOk_is (l : List Bag) : epOk l = (decide (l.length ≤ 4) && !anyB (fun b => Rec.may b != 0) l) := by
 unfold epOk anyB
 rw [List.not_any_eq_all_not]
 congr 1
 refine List.all_congr rfl fun b => ?_
 cases h : decide (Rec.may b = 0) <;> simp at h <;> simp [h]
theorem epoch_any (v : Value) (l : List Bag) (w : World) (hv : EpR w v l) (hl : l.length ≤ 1000000) (hb : ∀ b ∈ l, b.length ≤ 1000000) :
 Calls Tryz.prog 40 #[v] w fun e w' => e = .returned (.bool (epOk l)) ∧ Ext w w' := by
 rw [epOk_is]
 obtain ⟨A, c, rfl⟩ := hv.form
 have eg2 : ∀ args w, (callFunc 85 args).run Tryz.prog w = .ok (.enter 85 args) w := enters_of Tryz.func85 (by kernel_rfl) rfl
 have HC := hid (containsB_any (fun b => Rec.may b != 0) 85 #[] eg2 (.slice A l.length c) l w hv (by omega) (fun u x W hx he hu => oddBag_any u x W hu (hb x hx)))
 generalize anyB (fun b => Rec.may b != 0) l = y at *
 clear hv eg2 hb
 by_cases h : l.length ≤ 4
 · rw [decide_eq_true h, Bool.true_and]
   have q : (l.length : Int) ≤ 4 := by omega
   clear hl
   go_enter Tryz.func40, Tryz.ntmps40
   go_wp2_with fail
   refine HC.out.mono ?_
   rintro e w1 ⟨rfl, he1⟩
   go_wp2
   go_ret
   exact ⟨rfl, he1⟩
 · rw [decide_eq_false h, Bool.false_and]
   have q : ¬ (l.length : Int) ≤ 4 := by omega
   clear HC hl
   go_enter Tryz.func40, Tryz.ntmps40
   go_wp2
   go_ret
   exact ⟨rfl, Ext.refl _⟩
theorem oddEp_any (u : Value) (l : List Bag) (w : World) (hv : EpR w u l) (hl : l.length ≤ 1000000) (hb : ∀ b ∈ l, b.length ≤ 1000000) :
 Calls Tryz.prog 39 #[u] w fun e w' => e = .returned (.bool (!epOk l)) ∧ Ext w w' := by
 have HC := hid (epoch_any u l w hv hl hb)
 obtain ⟨A, c, rfl⟩ := hv.form
 generalize epOk l = y at *
 clear hv hl hb
 go_enter Tryz.func39, Tryz.ntmps39
 go_wp2_with fail
 refine HC.out.mono ?_
 rintro e w1 ⟨rfl, he1⟩
 go_wp2
 go_ret
 exact ⟨rfl, he1⟩
theorem oddAct_any (k n a b t : Int) (u : Value) (ks : List Int) (w : World) (hu : RE w u ks) (hl : ks.length ≤ 1000000) :
 Calls Tryz.prog 41 #[actAg k n a b t u] w fun e w' => e = .returned (.bool (!actOk ((k, n, a, b, t), ks))) ∧ Ext w w' := by
 have HX := hid ((Ext.refl w).alloc (actCs k n a b t u))
 have HB := hid (Bx6.new w 47 (.int .i64 k) (.int .i64 n) (.int .i64 a) (.int .i64 b) (.int .i64 t) u)
 have HC := hid (fun w hu => act_any k n a b t u ks w hu hl)
 have HU := hid (RE.ext hu HX.out)
 generalize actOk ((k, n, a, b, t), ks) = y at *
 obtain ⟨A, c, rfl⟩ := hu.form
 clear hu hl
 go_enter Tryz.func41, Tryz.ntmps41
 go_upto_region 1 with fail
 generalize w.heap.size = p at *
 generalize w.alloc (actCs k n a b t (.slice A ks.length c)) = w0 at *
 obtain ⟨c0, c1, c2, c3, c4, c5⟩ := HB.out.at_
 go_wp2_with fail
 refine (HC.out _ HU.out).mono ?_
 rintro e w1 ⟨rfl, he1⟩
 have HX1 := hid (HX.out.trans he1)
 clear he1
 go_wp2
 go_ret
 exact ⟨rfl, HX1.out⟩
def scE (s : Sc) : Int := if scOk s = true then 0 else 260
theorem scOk_is (s : Sc) : scOk s = (((cfgN s.cfg).all fun n => inR n 1073741824) && (Gr.gOk s.g && ((decide (s.ins.length ≤ 16) && !anyE (fun l => !epOk l) s.ins) && (decide (s.acts.length ≤ 256) && !anyA (fun a => !actOk a) s.acts)))) := by
 have h1 : anyE (fun l => !epOk l) s.ins = !s.ins.all epOk := by unfold anyE; rw [List.all_eq_not_any_not]; simp
 have h2 : anyA (fun a => !actOk a) s.acts = !s.acts.all actOk := by unfold anyA; rw [List.all_eq_not_any_not]; simp
 rw [h1, h2]
 unfold scOk
 simp only [Bool.not_not, Bool.and_assoc]
set_option maxHeartbeats 4000000 in
theorem sCheck_any (d : Nat) (s : Sc) (nv iv av : Value) (w : World) (h : ScR d w nv iv av s) (hs : ScSm s) :
 Calls Tryz.prog 12 #[scAg s nv iv av] w fun e w' => e = .returned (.int .i64 (scE s)) ∧ Ext w w' := by
 have HR := hid (show scE s = if scOk s = true then 0 else 260 from rfl)
 rw [scOk_is] at HR
 obtain ⟨⟨k0, k1, k2, k3⟩, ⟨ns, out⟩, ins, acts⟩ := s
 generalize scE ⟨(k0, k1, k2, k3), (ns, out), ins, acts⟩ = res at *
 obtain ⟨hn, hi, ha⟩ := h
 obtain ⟨hs1, hs2, hs3, hs4⟩ := hs
 dsimp only at *
 have HX := hid ((Ext.refl w).alloc (scCs (.int .i64 k0) (.int .i64 k1) (.int .i64 k2) (.int .i64 k3) nv out iv av))
 have HB := hid (Bx8.new w 30 (.int .i64 k0) (.int .i64 k1) (.int .i64 k2) (.int .i64 k3) nv (.int .i64 out) iv av)
 have HN := hid (hn.ext HX.out)
 have HI := hid (hi.ext HX.out)
 have HA := hid (ha.ext HX.out)
 have eg1 : ∀ args w, (callFunc 39 args).run Tryz.prog w = .ok (.enter 39 args) w := enters_of Tryz.func39 (by kernel_rfl) rfl
 have eg2 : ∀ args w, (callFunc 41 args).run Tryz.prog w = .ok (.enter 41 args) w := enters_of Tryz.func41 (by kernel_rfl) rfl
 have HCE := hid (fun W (h : InsR W iv ins) => containsE_any (fun l => !epOk l) 39 #[] eg1 iv ins W h (by omega) (fun u x W hx he hu => oddEp_any u x W hu (hs2 x hx).1 (hs2 x hx).2))
 have HCA := hid (fun W (h : ActsR W av acts) => containsA_any (fun a => !actOk a) 41 #[] eg2 av acts W h (by omega) (fun u x W hx he hu => oddAct_any x.1.1 x.1.2.1 x.1.2.2.1 x.1.2.2.2.1 x.1.2.2.2.2 u x.2 W hu (hs4 x hx)))
 have HCG := hid (fun W (h : NodesR d W nv ns) => gCheck_any d nv ns out W h)
 rw [show gE (ns, out) = if gOk (ns, out) = true then 0 else 170 from rfl] at HCG
 have HCN := hid (fun (W : World) (u : Value) q (hv : RE W u [k0, k1, k2, k3]) (hb : Blk W q 3 #[.int .i64 1073741824]) => none_any u [k0, k1, k2, k3] 1073741824 q W hv (by simp) hb)
 have HCC := hid (fun W => config_any k0 k1 k2 k3 W)
 have HCW := hid (fun W => swithin_any 1073741824 W)
 rw [show (cfgN (k0, k1, k2, k3)) = [k0, k1, k2, k3] from rfl] at HR
 generalize [k0, k1, k2, k3].all (fun n => inR n 1073741824) = b1 at *
 generalize gOk (ns, out) = b2 at *
 generalize anyE (fun l => !epOk l) ins = b4 at *
 generalize anyA (fun a => !actOk a) acts = b6 at *
 obtain ⟨AN, cN, rfl⟩ := hn.form
 obtain ⟨AI, cI, rfl⟩ := hi.form
 obtain ⟨AA, cA, rfl⟩ := ha.form
 clear hn hi ha hs1 hs2 hs3 hs4 eg1 eg2
 go_enter Tryz.func12, Tryz.ntmps12
 go_upto_region 1 with fail
 generalize w.heap.size = p at *
 generalize w.alloc (scCs (.int .i64 k0) (.int .i64 k1) (.int .i64 k2) (.int .i64 k3) (.slice AN ns.length cN) out (.slice AI ins.length cI) (.slice AA acts.length cA)) = w0 at *
 obtain ⟨c0, c1, c2, c3, c4, c5, c6, c7⟩ := HB.out.at_
 go_wp2_with fail
 refine (HCC.out _).mono ?_
 rintro e w1 ⟨u1, rfl, ho1, he1⟩
 obtain ⟨A1, m1, rfl⟩ := ho1.re.form
 have HO1 := hid ho1.re
 have HX1 := hid (HX.out.trans he1)
 have HE1 := hid he1
 clear ho1 he1 c0 c1 c2 c3 c4 c5 c6 c7
 go_wp2_with fail
 refine (HCW.out _).mono ?_
 rintro e w2 ⟨q, rfl, hb2, he2⟩
 have HX2 := hid (HX1.out.trans he2)
 have HE2 := hid (HE1.out.trans he2)
 have HO2 := hid (RE.ext HO1.out he2)
 have HB2 := hid hb2
 clear he2 hb2
 go_wp2_with fail
 refine (HCN.out _ _ _ HO2.out HB2.out).mono ?_
 rintro e w3 ⟨rfl, he3⟩
 have HX3 := hid (HX2.out.trans he3)
 have HE3 := hid (HE2.out.trans he3)
 have HB3 := hid (HB.out.ext HE3.out)
 clear he3
 obtain ⟨c0, c1, c2, c3, c4, c5, c6, c7⟩ := HB3.out.at_
 cases b1 with
 | false =>
  obtain rfl : res = 260 := HR.out
  go_wp2
  go_ret
  exact ⟨rfl, HX3.out⟩
 | true =>
 go_wp2_with fail
 refine (HCG.out _ (HN.out.ext HE3.out)).mono ?_
 rintro e w4 ⟨rfl, he4⟩
 have HX4 := hid (HX3.out.trans he4)
 have HE4 := hid (HE3.out.trans he4)
 have HB4 := hid (HB.out.ext HE4.out)
 clear he4 c0 c1 c2 c3 c4 c5 c6 c7
 obtain ⟨c0, c1, c2, c3, c4, c5, c6, c7⟩ := HB4.out.at_
 cases b2 with
 | false =>
  obtain rfl : res = 260 := HR.out
  rw [if_neg (by simp)]
  go_wp2
  go_ret
  exact ⟨rfl, HX4.out⟩
 | true =>
 rw [if_pos rfl]
 by_cases hi : ins.length ≤ 16
 case neg =>
  have hi2 : (ins.length : Int) > 16 := by omega
  obtain rfl : res = 260 := by rw [HR.out, decide_eq_false hi]; rfl
  clear hi
  go_wp2
  go_ret
  exact ⟨rfl, HX4.out⟩
 rw [decide_eq_true hi] at HR
 have hi2 : decide (16 < (ins.length : Int)) = false := decide_eq_false (by omega)
 have hi3 : decide ((ins.length : Int) > 16) = false := hi2
 clear hi
 go_wp2_with fail
 refine (HCE.out _ (HI.out.ext HE4.out)).mono ?_
 rintro e w5 ⟨rfl, he5⟩
 have HX5 := hid (HX4.out.trans he5)
 have HE5 := hid (HE4.out.trans he5)
 have HB5 := hid (HB.out.ext HE5.out)
 clear he5 c0 c1 c2 c3 c4 c5 c6 c7 hi2 hi3
 obtain ⟨c0, c1, c2, c3, c4, c5, c6, c7⟩ := HB5.out.at_
 cases b4 with
 | true =>
  obtain rfl : res = 260 := HR.out
  go_wp2
  go_ret
  exact ⟨rfl, HX5.out⟩
 | false =>
 by_cases ha : acts.length ≤ 256
 case neg =>
  have ha2 : (acts.length : Int) > 256 := by omega
  obtain rfl : res = 260 := by rw [HR.out, decide_eq_false ha]; rfl
  clear ha
  go_wp2
  go_ret
  exact ⟨rfl, HX5.out⟩
 rw [decide_eq_true ha] at HR
 have ha2 : decide (256 < (acts.length : Int)) = false := decide_eq_false (by omega)
 have ha3 : decide ((acts.length : Int) > 256) = false := ha2
 clear ha
 go_wp2_with fail
 refine (HCA.out _ (HA.out.ext HE5.out)).mono ?_
 rintro e w6 ⟨rfl, he6⟩
 have HX6 := hid (HX5.out.trans he6)
 clear he6 c0 c1 c2 c3 c4 c5 c6 c7 ha2 ha3
 cases b6 with
 | true =>
  obtain rfl : res = 260 := HR.out
  go_wp2
  go_ret
  exact ⟨rfl, HX6.out⟩
 | false =>
  obtain rfl : res = 0 := HR.out
  go_wp2
  go_ret
  exact ⟨rfl, HX6.out⟩
end Go.Proofs.YtpmpjjhchkoboaaGreatDoor
namespace Go.Proofs.YtpmpjjhchkoboaaGreatDoor
open Go.RowKit Go.Ox
theorem grow_nil (n : Nat) (w : World) (hn : n ≤ 1099511627776) :
 Calls Tryz.prog 138 #[.slice none 0 0, .int .i64 n] w fun e w' => ∃ v, e = .returned v ∧ w'.ownsRow w.heap.size 5 1 v 0 [] ∧ Ext w w' := by
 by_cases h0 : 0 < n
 · obtain ⟨i, hi, hz, hs, hb⟩ := elemB.info
   have happ := Go.Lib.run_append_nil_zeros (P := Tryz.prog) w 33 3 33 5 i (.int .u8 0) .i64 .i64 Tryz.underlying33 Tryz.underlying3 hi hz n h0 (by omega) (by omega) (by rw [hb]; omega)
   have HA := hid happ
   have hmade := World.ownsRow_made (base := w.heap.size) (e := 5) (size := 1) w.drew (Builtin.zeroCells (Value.int .u8 0).cells n ++ Builtin.zeroCells (Value.int .u8 0).cells (grownCap w n 0 5 - n)) (grownCap w n 0 5) (Nat.le_refl _)
    (grownCap_le_maxLen _ _ _ _ (by unfold maxLen; omega)) (by
     have := grownCap_ge w n 0 5
     rw [Array.size_append, size_zeroCells, size_zeroCells]
     simp [Value.cells]; omega)
   have HM := hid hmade
   clear happ hmade hz hs hb hi
   have hn0 : (0 : Int) < (n : Int) := by omega
   go_enter Tryz.func138, Tryz.ntmps138
   go_wp2_with (at_builtin; refine Go.Lib.wpList_append_run _ rfl (.tmp 20) (.tmp 21) 33 3 rfl (.slice none 0 0) (.int .i64 n) rfl rfl _ _ HA.out ?_; generalize Builtin.zeroCells (Value.int .u8 0).cells n ++ Builtin.zeroCells (Value.int .u8 0).cells (grownCap w n 0 5 - n) = cs at *; generalize grownCap w n 0 5 = cp at *)
   go_ret
   exact ⟨_, rfl, HM.out, (Ext.refl _).drew.alloc _⟩
 · obtain rfl : n = 0 := by omega
   go_enter Tryz.func138, Tryz.ntmps138
   go_wp2
   go_ret
   exact ⟨_, rfl, World.ownsRow_nil _ _ _ _, Ext.refl _⟩
structure RBs (w : World) (v : Value) (ls : List (List UInt8)) : Prop where
 ex : ∃ vs : List Value, Rd w 1 v ls.length vs ∧ ∀ (k : Nat) (hk : k < ls.length), ∃ u, vs[k]? = some u ∧ RB w u ls[k]
theorem RBs.lit2 {w : World} {v1 v2 : Value} {l1 l2 : List UInt8} (E : Nat) (h1 : RB w v1 l1) (h2 : RB w v2 l2) : RBs (w.alloc (.cells #[v1, v2] E)) (.slice (some ⟨w.heap.size, 0, none⟩) 2 2) [l1, l2] := by
 refine ⟨[v1, v2], Rd.lit w #[v1, v2] E 2 rfl (by unfold maxLen; omega), fun k hk => ?_⟩
 match k, hk with
 | 0, _ => exact ⟨v1, rfl, h1.ext ((Ext.refl _).alloc _)⟩
 | 1, _ => exact ⟨v2, rfl, h2.ext ((Ext.refl _).alloc _)⟩
theorem flat_snoc {α : Type} (ls : List (List α)) {k : Nat} (h : k < ls.length) : (ls.take (k + 1)).flatten = (ls.take k).flatten ++ ls[k] := by
 rw [List.take_succ_eq_append_getElem h, List.flatten_append]; simp
theorem flat_le {α : Type} (ls : List (List α)) (k : Nat) : (ls.take k).flatten.length ≤ ls.flatten.length := by
 conv => rhs; rw [← List.take_append_drop k ls]
 rw [List.flatten_append, List.length_append]; omega
set_option maxHeartbeats 1000000 in
theorem concat_any (v : Value) (ls : List (List UInt8)) (w : World) (hb : RBs w v ls) (hl : ls.flatten.length ≤ 1099511627776) :
 Calls Tryz.prog 118 #[v] w fun e w' => ∃ v', e = .returned v' ∧ OB 5 w.heap.size w' v' ls.flatten ∧ Ext w w' := by
 obtain ⟨vs, ⟨A, c, rfl, hrd⟩, hat⟩ := hb
 have HAT := hid hat
 clear hat
 have hn := hrd.nc
 have hm := hrd.cm
 unfold maxLen at hm
 go_enter Tryz.func118, Tryz.ntmps118
 go_wp2
 go_loop [3, 5, 11] (fun z _ i => ∃ k : Nat, k ≤ ls.length ∧ i = .int .i64 k ∧ z = .int .i64 ((ls.take k).flatten.length : Nat)) (fun _ _ i => ls.length - (intOf i).toNat)
 case atStart => exact ⟨0, Nat.zero_le _, rfl, rfl⟩
 case round =>
  obtain ⟨k, hk, rfl, rfl⟩ := hrel
  have hfl := flat_le ls k
  by_cases hlt : k < ls.length
  · obtain ⟨b, o, rfl⟩ := hrd.addr (by omega)
    obtain ⟨u, hu, ⟨A', c', rfl, hr'⟩⟩ := HAT.out k hlt
    have hcell := hrd.get hu
    have hsn := congrArg List.length (flat_snoc ls hlt)
    rw [List.length_append] at hsn
    have hfl2 := flat_le ls (k + 1)
    have HS := hid hsn
    have hsn2 : (ls.take k).flatten.length + ls[k].length ≤ 1099511627776 := by omega
    clear hsn hu
    have hk0 : (k : Int) < (ls.length : Int) := by omega
    generalize (ls.take k).flatten.length = z at *
    go_wp2
    go_round
    case rel => exact ⟨k + 1, by omega, by go_num, by rw [HS.out]; go_num⟩
    case measure => simp [intOf]; omega
  · obtain rfl : k = ls.length := by omega
    rw [List.take_length] at *
    clear hfl
    have hG := grow_nil ls.flatten.length w hl
    generalize hz : ls.flatten.length = z at *
    have HZ := hid hz
    have HG := hid hG
    clear hG hz
    go_wp2_with (go_at_call 138; refine HG.out.mono ?_; rintro e w1 ⟨v1, rfl, ho1, he1⟩)
    go_loopw [6, 8, 27] (fun y _ i wr => ∃ (k : Nat) (l' : List UInt8), k ≤ ls.length ∧ i = .int .i64 k ∧ l' = (ls.take k).flatten ∧ OB 5 w.heap.size wr y l' ∧ Ext w wr) (fun _ _ i _ => ls.length - (intOf i).toNat)
    case atStart => exact ⟨0, [], Nat.zero_le _, rfl, rfl, ho1, he1⟩
    case round =>
     obtain ⟨k, l', hk, rfl, hl', hown, hext⟩ := hrel
     have HL' := hid hl'
     have hfl := flat_le ls k
     rw [← hl', HZ.out] at hfl
     clear hl'
     by_cases hlt : k < ls.length
     · obtain ⟨b, o, rfl⟩ := hrd.addr (by omega)
       obtain ⟨u, hu, hru⟩ := HAT.out k hlt
       have hcell := (hrd.ext hext).get hu
       have hru' := hru.ext hext
       obtain ⟨A', c', rfl, hr'⟩ := hru
       have hsn := flat_snoc ls hlt
       have hfl2 := flat_le ls (k + 1)
       rw [hsn, ← HL'.out, List.length_append, HZ.out] at hfl2
       rw [← HL'.out] at hsn
       have HS := hid hsn
       have HR := hid hru'
       have HO := hid hown
       clear hsn hu hru' hown
       have hk0 : (k : Int) < (ls.length : Int) := by omega
       go_wp2_with (at_builtin; refine wpList_app rfl elemB _ _ _ rfl w.heap.size _ l'.length (l'.map byteV) rfl HO.out _ ls[k].length (ls[k].map byteV) rfl HR.out (one_byteV _) (by omega) (by unfold maxLen; omega) hext.size ?_; intro v' w' ha)
       go_roundw
       case rel => exact ⟨k + 1, l' ++ ls[k], by omega, by go_num, HS.out.symm, by have := ha.own; simpa [OB] using this, ha.ext hext rfl HO.out⟩
       case measure => simp [intOf]; omega
     · obtain rfl : k = ls.length := by omega
       rw [List.take_length] at HL'
       go_wp2
       go_ret
       exact ⟨_, rfl, by rw [← HL'.out]; exact hown, hext⟩
end Go.Proofs.YtpmpjjhchkoboaaGreatDoor
namespace Go.Proofs.YtpmpjjhchkoboaaGreatDoor
open Go.RowKit Go.Ox Go.Shelf
attribute [local irreducible] OP RP
theorem ltM (x y : Mom.M) : Go.Proofs.ltOf Mom.cmp x y = true ↔ Mom.lt x y := by
 unfold Go.Proofs.ltOf
 simp only [decide_eq_true_eq]
 exact Mom.cmp_lt
theorem ltM_f (x y : Mom.M) : Go.Proofs.ltOf Mom.cmp x y = false ↔ ¬ Mom.lt x y := by
 rw [← ltM, Bool.not_eq_true]
theorem swoM : Go.Sort.SWO (Go.Proofs.ltOf Mom.cmp) where
 irrefl x := by rw [ltM_f]; exact Mom.lt_irrefl x
 trans x y z h1 h2 := by rw [ltM] at *; exact Mom.lt_trans h1 h2
 ntrans x y z h1 h2 := by
  rw [ltM_f] at *
  intro h3
  rcases Mom.lt_conn x y with h | h | h
  · exact h1 h
  · subst h; exact h2 h3
  · rcases Mom.lt_conn y z with k | k | k
    · exact h2 k
    · subst k; exact h1 h3
    · exact Mom.lt_irrefl _ (Mom.lt_trans h3 (Mom.lt_trans k h))
theorem cmpLaysM (blk off size : Nat) (w : World) : Go.Proofs.CmpLays Tryz.prog 121 #[] encM 2 Mom.cmp blk off size w :=
 fun _ _ _ _ x y => compare_grown x y _
unseal OP in
theorem pV_enc (l : List Mom.M) : pV l = l.flatMap encM := rfl
theorem sortM_any (v : Value) (l : List Mom.M) (base : Nat) (w : World) (ho : OP 55 base w v l) (hl : l.length ≤ 1000000000) :
 Calls Tryz.prog 120 #[v, .func (.func 121) #[] #[]] w fun e w' =>
  e = .returned (.tuple #[]) ∧ ∃ s : List Mom.M, s.Perm l ∧ s.Pairwise (fun a b => ¬ Mom.lt b a) ∧ OP 55 base w' v s ∧ w.grownBy w' v.ownBlock := by
 rcases ho.own.2 with ⟨rfl, h0⟩ | ⟨g, cap, cur, rfl, hb, _⟩
 · obtain rfl := List.eq_nil_of_length_eq_zero h0
   refine (AnyF.slices_SortFunc_none Tryz.sortM none 0 _ w).mono ?_
   rintro e w' ⟨h1, rfl⟩
   exact ⟨h1, [], List.Perm.refl _, List.Pairwise.nil, OP.nilS _ _ _, World.grownBy.refl _ _⟩
 · have eg : ∀ args w, (callFunc 121 args).run Tryz.prog w = .ok (.enter 121 args) w := enters_of Tryz.func121 (by kernel_rfl) rfl
   have hH := holdsK_of_own (enc := encM) (fun _ => rfl) (by omega) ho.own
   have hcon := AnyQ.slices_SortFunc Tryz.sortM 2 Tryz.isAgg55 Tryz.sizeOf55 encM (fun _ => rfl) (fun x u hu => by simp at hu; rcases hu with rfl | rfl <;> rfl) Mom.cmp swoM 121 #[] g 0 cap l.toArray w eg
    (cmpLaysM g 0 _ w) hH (ho.own.lt g rfl).2 (by simp; omega)
   refine hcon.mono ?_
   rintro e w' ⟨h1, d', n, os, hp, hs, hw⟩
   have hsz : d'.size = l.length := by have := hp.1; simpa using this
   obtain ⟨q1, q2⟩ := own_sorted (enc := encM) (fun _ => rfl) (by omega) ho.own hsz hw
   refine ⟨h1, d'.toList, by simpa using perm_of hp, (sorted_of hs (by simpa using hsz)).imp (fun {a b} h => (ltM_f _ _).1 h), ?_, q2⟩
   unfold OP
   rw [pV_enc, show d'.toList.length = l.length by simpa using hsz]
   exact q1
theorem sorted_any (v : Value) (l : List Rec.R) (w : World) (hv : RP w v l) (hl : l.length ≤ 1000000) :
 Calls Tryz.prog 75 #[v] w fun e w' => ∃ v', e = .returned v' ∧ OP 55 w.heap.size w' v' (Rec.srt l) ∧ Ext w w' := by
 have HV := hid hv
 obtain ⟨A, c, rfl⟩ := hv.form
 clear hv
 go_enter Tryz.func75, Tryz.ntmps75
 go_wp2_with fail
 refine (cloneM_any _ l w HV.out (by omega)).mono ?_
 rintro e w1 ⟨v1, rfl, ho1, he1⟩
 have HO1 := hid ho1
 obtain ⟨A1, c1, rfl⟩ := ho1.rp.form
 have HX1 := hid he1
 clear ho1 he1
 go_wp2_with fail
 refine (sortM_any _ l w.heap.size w1 HO1.out (by omega)).mono ?_
 rintro e w2 ⟨rfl, s, hp, hs, ho2, hg2⟩
 have hx2 : Ext w w2 := HX1.out.grown hg2 fun k hk => (HO1.out.own.lt k hk).1
 rw [Rec.srt_is (l := l) hs hp] at ho2
 go_wp2
 go_ret
 exact ⟨_, rfl, ho2, hx2⟩
theorem sort_ok (v : Value) (l : List Rec.R) (w : World) (hv : RP w v l) (hl : l.length ≤ 1000000) (hm : Rec.may l = 0) :
 Calls Tryz.prog 72 #[v] w fun e w' => ∃ v', e = .returned (.tuple #[v', .int .i64 0]) ∧ OP 55 w.heap.size w' v' (Rec.srt l) ∧ Ext w w' := by
 have HM := hid (may_any v l w hv hl)
 have HV := hid hv
 rw [hm] at HM
 obtain ⟨A, c, rfl⟩ := hv.form
 clear hv hm
 go_enter Tryz.func72, Tryz.ntmps72
 go_wp2_with fail
 refine HM.out.mono ?_
 rintro e w1 ⟨rfl, he1⟩
 have HX1 := hid he1
 clear he1
 go_wp2_with fail
 refine (sorted_any _ l w1 (HV.out.ext HX1.out) hl).mono ?_
 rintro e w2 ⟨v2, rfl, ho2, he2⟩
 go_wp2
 go_ret2
 exact ⟨_, rfl, ho2.low HX1.out.size, HX1.out.trans he2⟩
end Go.Proofs.YtpmpjjhchkoboaaGreatDoor
