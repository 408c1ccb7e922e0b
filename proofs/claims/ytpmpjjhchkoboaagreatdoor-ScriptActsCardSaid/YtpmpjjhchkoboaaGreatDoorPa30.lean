/-
  ScrChk, SlcCat, packed: what the claim needs of them.
-/
import Derived.Test.YtpmpjjhchkoboaaGreatDoorPa27
import Derived.Test.YtpmpjjhchkoboaaGreatDoorPa29
import Derived.Test.YtpmpjjhchkoboaaGreatDoorPa12
namespace Go.Proofs.YtpmpjjhchkoboaaGreatDoor
open Go.RowKit Go.Ox Go.Ox.Gr Go.Ox.Sc
set_option linter.unusedVariables false
set_option linter.unusedSimpArgs false
attribute [local irreducible] RE OE EpR InsR ActsR RP NodesR
/-- a block of eight cells -/
structure Bx8 (w : World) (p : Nat) (T : TypeId) (c0 c1 c2 c3 c4 c5 c6 c7 : Value) : Prop where
  b : Blk w p T #[c0, c1, c2, c3, c4, c5, c6, c7]
section
variable {w w' : World} {p : Nat} {T : TypeId} {c0 c1 c2 c3 c4 c5 c6 c7 : Value}
theorem Bx8.at_ (h : Bx8 w p T c0 c1 c2 c3 c4 c5 c6 c7) :
    w.cell? ⟨p, 0, none⟩ = some c0 ∧ w.cell? ⟨p, 1, none⟩ = some c1 ∧ w.cell? ⟨p, 2, none⟩ = some c2 ∧ w.cell? ⟨p, 3, none⟩ = some c3 ∧ w.cell? ⟨p, 4, none⟩ = some c4 ∧ w.cell? ⟨p, 5, none⟩ = some c5 ∧ w.cell? ⟨p, 6, none⟩ = some c6 ∧ w.cell? ⟨p, 7, none⟩ = some c7 :=
  ⟨h.b.cell 0, h.b.cell 1, h.b.cell 2, h.b.cell 3, h.b.cell 4, h.b.cell 5, h.b.cell 6, h.b.cell 7⟩
theorem Bx8.ext (h : Bx8 w p T c0 c1 c2 c3 c4 c5 c6 c7) (he : Ext w w') : Bx8 w' p T c0 c1 c2 c3 c4 c5 c6 c7 := ⟨h.b.ext he⟩
theorem Bx8.new (w : World) (T : TypeId) (c0 c1 c2 c3 c4 c5 c6 c7 : Value) : Bx8 (w.alloc (.cells #[c0, c1, c2, c3, c4, c5, c6, c7] T)) w.heap.size T c0 c1 c2 c3 c4 c5 c6 c7 := ⟨Blk.new _ _ _⟩
end
abbrev scCs (k0 k1 k2 k3 nv : Value) (out : Int) (iv av : Value) : Obj := .cells #[k0, k1, k2, k3, nv, .int .i64 out, iv, av] 30
set_option maxRecDepth 100000 in
set_option maxHeartbeats 400000 in
theorem oddBag_any (u : Value) (b : Bag) (w : World) (hu : RP w u b) (hl : b.length ≤ 1000000) :
    Calls Tryz.prog 85 #[u] w fun e w' => e = .returned (.bool (Rec.may b != 0)) ∧ Ext w w' := by
  have HC := Lib.hid (may_any u b w hu hl)
  obtain ⟨A, c, rfl⟩ := hu.form
  generalize Rec.may b = m at *
  obtain ⟨y, hy⟩ : ∃ y, (m != 0) = y := ⟨_, rfl⟩
  rw [hy]
  clear hu hl
  go_enter Tryz.func85, Tryz.ntmps85
  go_wp2_with fail
  refine HC.out.mono ?_
  rintro e w1 ⟨rfl, he1⟩
  go_wp2
  go_ret
  exact ⟨rfl, he1⟩
theorem epOk_is (l : List Bag) : epOk l = (decide (l.length ≤ 4) && !anyB (fun b => Rec.may b != 0) l) := by
  unfold epOk anyB
  rw [List.not_any_eq_all_not]
  congr 1
  refine List.all_congr rfl fun b => ?_
  cases h : decide (Rec.may b = 0) <;> simp at h <;> simp [h]
set_option maxRecDepth 100000 in
set_option maxHeartbeats 400000 in
theorem epoch_any (v : Value) (l : List Bag) (w : World) (hv : EpR w v l) (hl : l.length ≤ 1000000) (hb : ∀ b ∈ l, b.length ≤ 1000000) :
    Calls Tryz.prog 40 #[v] w fun e w' => e = .returned (.bool (epOk l)) ∧ Ext w w' := by
  rw [epOk_is]
  obtain ⟨A, c, rfl⟩ := hv.form
  have eg2 : ∀ args w, (callFunc 85 args).run Tryz.prog w = .ok (.enter 85 args) w := enters_of Tryz.func85 (by kernel_rfl) rfl
  have HC := Lib.hid (containsB_any (fun b => Rec.may b != 0) 85 #[] eg2 (.slice A l.length c) l w hv (by omega) (fun u x W hx he hu => oddBag_any u x W hu (hb x hx)))
  generalize anyB (fun b => Rec.may b != 0) l = y at *
  clear hv eg2 hb
  by_cases h : l.length ≤ 4
  · rw [decide_eq_true h, Bool.true_and]
    have q : (l.length : Int) ≤ 4 := by omega
    clear hl
    go_enter Tryz.func40, Tryz.ntmps40
    go_wp2_with fail
    refine HC.out.mono ?_
    rintro e w1 ⟨rfl, he1⟩
    go_wp2
    go_ret
    exact ⟨rfl, he1⟩
  · rw [decide_eq_false h, Bool.false_and]
    have q : ¬ (l.length : Int) ≤ 4 := by omega
    clear HC hl
    go_enter Tryz.func40, Tryz.ntmps40
    go_wp2
    go_ret
    exact ⟨rfl, Ext.refl _⟩
set_option maxRecDepth 100000 in
set_option maxHeartbeats 400000 in
theorem oddEp_any (u : Value) (l : List Bag) (w : World) (hv : EpR w u l) (hl : l.length ≤ 1000000) (hb : ∀ b ∈ l, b.length ≤ 1000000) :
    Calls Tryz.prog 39 #[u] w fun e w' => e = .returned (.bool (!epOk l)) ∧ Ext w w' := by
  have HC := Lib.hid (epoch_any u l w hv hl hb)
  obtain ⟨A, c, rfl⟩ := hv.form
  generalize epOk l = y at *
  clear hv hl hb
  go_enter Tryz.func39, Tryz.ntmps39
  go_wp2_with fail
  refine HC.out.mono ?_
  rintro e w1 ⟨rfl, he1⟩
  go_wp2
  go_ret
  exact ⟨rfl, he1⟩
set_option maxRecDepth 100000 in
set_option maxHeartbeats 400000 in
theorem oddAct_any (k n a b t : Int) (u : Value) (ks : List Int) (w : World) (hu : RE w u ks) (hl : ks.length ≤ 1000000) :
    Calls Tryz.prog 41 #[actAg k n a b t u] w fun e w' => e = .returned (.bool (!actOk ((k, n, a, b, t), ks))) ∧ Ext w w' := by
  have HX := Lib.hid ((Ext.refl w).alloc (actCs k n a b t u))
  have HB := Lib.hid (Bx6.new w 47 (.int .i64 k) (.int .i64 n) (.int .i64 a) (.int .i64 b) (.int .i64 t) u)
  have HC := Lib.hid (fun w hu => act_any k n a b t u ks w hu hl)
  have HU := Lib.hid (RE.ext hu HX.out)
  generalize actOk ((k, n, a, b, t), ks) = y at *
  obtain ⟨A, c, rfl⟩ := hu.form
  clear hu hl
  go_enter Tryz.func41, Tryz.ntmps41
  go_upto_region 1 with fail
  generalize w.heap.size = p at *
  generalize w.alloc (actCs k n a b t (.slice A ks.length c)) = w0 at *
  obtain ⟨c0, c1, c2, c3, c4, c5⟩ := HB.out.at_
  go_wp2_with fail
  refine (HC.out _ HU.out).mono ?_
  rintro e w1 ⟨rfl, he1⟩
  have HX1 := Lib.hid (HX.out.trans he1)
  clear he1
  go_wp2
  go_ret
  exact ⟨rfl, HX1.out⟩
def scE (s : Sc) : Int := if scOk s = true then 0 else 260
theorem scOk_is (s : Sc) : scOk s = (((cfgN s.cfg).all fun n => inR n 1073741824) && (Gr.gOk s.g && ((decide (s.ins.length ≤ 16) && !anyE (fun l => !epOk l) s.ins) && (decide (s.acts.length ≤ 256) && !anyA (fun a => !actOk a) s.acts)))) := by
  have h1 : anyE (fun l => !epOk l) s.ins = !s.ins.all epOk := by unfold anyE; rw [List.all_eq_not_any_not]; simp
  have h2 : anyA (fun a => !actOk a) s.acts = !s.acts.all actOk := by unfold anyA; rw [List.all_eq_not_any_not]; simp
  rw [h1, h2]
  unfold scOk
  simp only [Bool.not_not, Bool.and_assoc]
set_option maxRecDepth 100000 in
set_option maxHeartbeats 4000000 in
theorem sCheck_any (d : Nat) (s : Sc) (nv iv av : Value) (w : World) (h : ScR d w nv iv av s) (hs : ScSm s) :
    Calls Tryz.prog 12 #[scAg s nv iv av] w fun e w' => e = .returned (.int .i64 (scE s)) ∧ Ext w w' := by
  have HR := Lib.hid (show scE s = if scOk s = true then 0 else 260 from rfl)
  rw [scOk_is] at HR
  obtain ⟨⟨k0, k1, k2, k3⟩, ⟨ns, out⟩, ins, acts⟩ := s
  generalize scE ⟨(k0, k1, k2, k3), (ns, out), ins, acts⟩ = res at *
  obtain ⟨hn, hi, ha⟩ := h
  obtain ⟨hs1, hs2, hs3, hs4⟩ := hs
  dsimp only at *
  have HX := Lib.hid ((Ext.refl w).alloc (scCs (.int .i64 k0) (.int .i64 k1) (.int .i64 k2) (.int .i64 k3) nv out iv av))
  have HB := Lib.hid (Bx8.new w 30 (.int .i64 k0) (.int .i64 k1) (.int .i64 k2) (.int .i64 k3) nv (.int .i64 out) iv av)
  have HN := Lib.hid (hn.ext HX.out)
  have HI := Lib.hid (hi.ext HX.out)
  have HA := Lib.hid (ha.ext HX.out)
  have eg1 : ∀ args w, (callFunc 39 args).run Tryz.prog w = .ok (.enter 39 args) w := enters_of Tryz.func39 (by kernel_rfl) rfl
  have eg2 : ∀ args w, (callFunc 41 args).run Tryz.prog w = .ok (.enter 41 args) w := enters_of Tryz.func41 (by kernel_rfl) rfl
  have HCE := Lib.hid (fun W (h : InsR W iv ins) => containsE_any (fun l => !epOk l) 39 #[] eg1 iv ins W h (by omega) (fun u x W hx he hu => oddEp_any u x W hu (hs2 x hx).1 (hs2 x hx).2))
  have HCA := Lib.hid (fun W (h : ActsR W av acts) => containsA_any (fun a => !actOk a) 41 #[] eg2 av acts W h (by omega) (fun u x W hx he hu => oddAct_any x.1.1 x.1.2.1 x.1.2.2.1 x.1.2.2.2.1 x.1.2.2.2.2 u x.2 W hu (hs4 x hx)))
  have HCG := Lib.hid (fun W (h : NodesR d W nv ns) => gCheck_any d nv ns out W h)
  rw [show gE (ns, out) = if gOk (ns, out) = true then 0 else 170 from rfl] at HCG
  have HCN := Lib.hid (fun (W : World) (u : Value) q (hv : RE W u [k0, k1, k2, k3]) (hb : Blk W q 3 #[.int .i64 1073741824]) => none_any u [k0, k1, k2, k3] 1073741824 q W hv (by simp) hb)
  have HCC := Lib.hid (fun W => config_any k0 k1 k2 k3 W)
  have HCW := Lib.hid (fun W => swithin_any 1073741824 W)
  rw [show (cfgN (k0, k1, k2, k3)) = [k0, k1, k2, k3] from rfl] at HR
  generalize [k0, k1, k2, k3].all (fun n => inR n 1073741824) = b1 at *
  generalize gOk (ns, out) = b2 at *
  generalize anyE (fun l => !epOk l) ins = b4 at *
  generalize anyA (fun a => !actOk a) acts = b6 at *
  obtain ⟨AN, cN, rfl⟩ := hn.form
  obtain ⟨AI, cI, rfl⟩ := hi.form
  obtain ⟨AA, cA, rfl⟩ := ha.form
  clear hn hi ha hs1 hs2 hs3 hs4 eg1 eg2
  go_enter Tryz.func12, Tryz.ntmps12
  go_upto_region 1 with fail
  generalize w.heap.size = p at *
  generalize w.alloc (scCs (.int .i64 k0) (.int .i64 k1) (.int .i64 k2) (.int .i64 k3) (.slice AN ns.length cN) out (.slice AI ins.length cI) (.slice AA acts.length cA)) = w0 at *
  obtain ⟨c0, c1, c2, c3, c4, c5, c6, c7⟩ := HB.out.at_
  go_wp2_with fail
  refine (HCC.out _).mono ?_
  rintro e w1 ⟨u1, rfl, ho1, he1⟩
  obtain ⟨A1, m1, rfl⟩ := ho1.re.form
  have HO1 := Lib.hid ho1.re
  have HX1 := Lib.hid (HX.out.trans he1)
  have HE1 := Lib.hid he1
  clear ho1 he1 c0 c1 c2 c3 c4 c5 c6 c7
  go_wp2_with fail
  refine (HCW.out _).mono ?_
  rintro e w2 ⟨q, rfl, hb2, he2⟩
  have HX2 := Lib.hid (HX1.out.trans he2)
  have HE2 := Lib.hid (HE1.out.trans he2)
  have HO2 := Lib.hid (RE.ext HO1.out he2)
  have HB2 := Lib.hid hb2
  clear he2 hb2
  go_wp2_with fail
  refine (HCN.out _ _ _ HO2.out HB2.out).mono ?_
  rintro e w3 ⟨rfl, he3⟩
  have HX3 := Lib.hid (HX2.out.trans he3)
  have HE3 := Lib.hid (HE2.out.trans he3)
  have HB3 := Lib.hid (HB.out.ext HE3.out)
  clear he3
  obtain ⟨c0, c1, c2, c3, c4, c5, c6, c7⟩ := HB3.out.at_
  cases b1 with
  | false =>
    obtain rfl : res = 260 := HR.out
    go_wp2
    go_ret
    exact ⟨rfl, HX3.out⟩
  | true =>
  go_wp2_with fail
  refine (HCG.out _ (HN.out.ext HE3.out)).mono ?_
  rintro e w4 ⟨rfl, he4⟩
  have HX4 := Lib.hid (HX3.out.trans he4)
  have HE4 := Lib.hid (HE3.out.trans he4)
  have HB4 := Lib.hid (HB.out.ext HE4.out)
  clear he4 c0 c1 c2 c3 c4 c5 c6 c7
  obtain ⟨c0, c1, c2, c3, c4, c5, c6, c7⟩ := HB4.out.at_
  cases b2 with
  | false =>
    obtain rfl : res = 260 := HR.out
    rw [if_neg (by simp)]
    go_wp2
    go_ret
    exact ⟨rfl, HX4.out⟩
  | true =>
  rw [if_pos rfl]
  by_cases hi : ins.length ≤ 16
  case neg =>
    have hi2 : (ins.length : Int) > 16 := by omega
    obtain rfl : res = 260 := by rw [HR.out, decide_eq_false hi]; rfl
    clear hi
    go_wp2
    go_ret
    exact ⟨rfl, HX4.out⟩
  rw [decide_eq_true hi] at HR
  have hi2 : decide (16 < (ins.length : Int)) = false := decide_eq_false (by omega)
  have hi3 : decide ((ins.length : Int) > 16) = false := hi2
  clear hi
  go_wp2_with fail
  refine (HCE.out _ (HI.out.ext HE4.out)).mono ?_
  rintro e w5 ⟨rfl, he5⟩
  have HX5 := Lib.hid (HX4.out.trans he5)
  have HE5 := Lib.hid (HE4.out.trans he5)
  have HB5 := Lib.hid (HB.out.ext HE5.out)
  clear he5 c0 c1 c2 c3 c4 c5 c6 c7 hi2 hi3
  obtain ⟨c0, c1, c2, c3, c4, c5, c6, c7⟩ := HB5.out.at_
  cases b4 with
  | true =>
    obtain rfl : res = 260 := HR.out
    go_wp2
    go_ret
    exact ⟨rfl, HX5.out⟩
  | false =>
  by_cases ha : acts.length ≤ 256
  case neg =>
    have ha2 : (acts.length : Int) > 256 := by omega
    obtain rfl : res = 260 := by rw [HR.out, decide_eq_false ha]; rfl
    clear ha
    go_wp2
    go_ret
    exact ⟨rfl, HX5.out⟩
  rw [decide_eq_true ha] at HR
  have ha2 : decide (256 < (acts.length : Int)) = false := decide_eq_false (by omega)
  have ha3 : decide ((acts.length : Int) > 256) = false := ha2
  clear ha
  go_wp2_with fail
  refine (HCA.out _ (HA.out.ext HE5.out)).mono ?_
  rintro e w6 ⟨rfl, he6⟩
  have HX6 := Lib.hid (HX5.out.trans he6)
  clear he6 c0 c1 c2 c3 c4 c5 c6 c7 ha2 ha3
  cases b6 with
  | true =>
    obtain rfl : res = 260 := HR.out
    go_wp2
    go_ret
    exact ⟨rfl, HX6.out⟩
  | false =>
    obtain rfl : res = 0 := HR.out
    go_wp2
    go_ret
    exact ⟨rfl, HX6.out⟩
end Go.Proofs.YtpmpjjhchkoboaaGreatDoor
namespace Go.Proofs.YtpmpjjhchkoboaaGreatDoor
open Go.RowKit Go.Ox
set_option maxRecDepth 100000 in
set_option maxHeartbeats 400000 in
theorem grow_nil (n : Nat) (w : World) (hn : n ≤ 1099511627776) :
    Calls Tryz.prog 138 #[.slice none 0 0, .int .i64 n] w fun e w' => ∃ v, e = .returned v ∧ w'.ownsRow w.heap.size 5 1 v 0 [] ∧ Ext w w' := by
  by_cases h0 : 0 < n
  · obtain ⟨i, hi, hz, hs, hb⟩ := elemB.info
    have happ := Go.Lib.run_append_nil_zeros (P := Tryz.prog) w 33 3 33 5 i (.int .u8 0) .i64 .i64 Tryz.underlying33 Tryz.underlying3 hi hz n h0 (by omega) (by omega) (by rw [hb]; omega)
    have HA := Lib.hid happ
    have hmade := World.ownsRow_made (base := w.heap.size) (e := 5) (size := 1) w.drew (Builtin.zeroCells (Value.int .u8 0).cells n ++ Builtin.zeroCells (Value.int .u8 0).cells (grownCap w n 0 5 - n)) (grownCap w n 0 5) (Nat.le_refl _)
      (grownCap_le_maxLen _ _ _ _ (by unfold maxLen; omega)) (by
        have := grownCap_ge w n 0 5
        rw [Array.size_append, size_zeroCells, size_zeroCells]
        simp [Value.cells]; omega)
    have HM := Lib.hid hmade
    clear happ hmade hz hs hb hi
    have hn0 : (0 : Int) < (n : Int) := by omega
    go_enter Tryz.func138, Tryz.ntmps138
    go_wp2_with (at_builtin; refine Go.Lib.wpList_append_run _ rfl (.tmp 20) (.tmp 21) 33 3 rfl (.slice none 0 0) (.int .i64 n) rfl rfl _ _ HA.out ?_; generalize Builtin.zeroCells (Value.int .u8 0).cells n ++ Builtin.zeroCells (Value.int .u8 0).cells (grownCap w n 0 5 - n) = cs at *; generalize grownCap w n 0 5 = cp at *)
    go_ret
    exact ⟨_, rfl, HM.out, (Ext.refl _).drew.alloc _⟩
  · obtain rfl : n = 0 := by omega
    go_enter Tryz.func138, Tryz.ntmps138
    go_wp2
    go_ret
    exact ⟨_, rfl, World.ownsRow_nil _ _ _ _, Ext.refl _⟩
/-- the slice v reads as slices of bytes -/
structure RBs (w : World) (v : Value) (ls : List (List UInt8)) : Prop where
  ex : ∃ vs : List Value, Rd w 1 v ls.length vs ∧ ∀ (k : Nat) (hk : k < ls.length), ∃ u, vs[k]? = some u ∧ RB w u ls[k]
theorem RBs.lit2 {w : World} {v1 v2 : Value} {l1 l2 : List UInt8} (E : Nat) (h1 : RB w v1 l1) (h2 : RB w v2 l2) : RBs (w.alloc (.cells #[v1, v2] E)) (.slice (some ⟨w.heap.size, 0, none⟩) 2 2) [l1, l2] := by
  refine ⟨[v1, v2], Rd.lit w #[v1, v2] E 2 rfl (by unfold maxLen; omega), fun k hk => ?_⟩
  match k, hk with
  | 0, _ => exact ⟨v1, rfl, h1.ext ((Ext.refl _).alloc _)⟩
  | 1, _ => exact ⟨v2, rfl, h2.ext ((Ext.refl _).alloc _)⟩
theorem flat_snoc {α : Type} (ls : List (List α)) {k : Nat} (h : k < ls.length) : (ls.take (k + 1)).flatten = (ls.take k).flatten ++ ls[k] := by
  rw [List.take_succ_eq_append_getElem h, List.flatten_append]; simp
theorem flat_le {α : Type} (ls : List (List α)) (k : Nat) : (ls.take k).flatten.length ≤ ls.flatten.length := by
  conv => rhs; rw [← List.take_append_drop k ls]
  rw [List.flatten_append, List.length_append]; omega
set_option maxRecDepth 100000 in
set_option maxHeartbeats 1000000 in
theorem concat_any (v : Value) (ls : List (List UInt8)) (w : World) (hb : RBs w v ls) (hl : ls.flatten.length ≤ 1099511627776) :
    Calls Tryz.prog 118 #[v] w fun e w' => ∃ v', e = .returned v' ∧ OB 5 w.heap.size w' v' ls.flatten ∧ Ext w w' := by
  obtain ⟨vs, ⟨A, c, rfl, hrd⟩, hat⟩ := hb
  have HAT := Lib.hid hat
  clear hat
  have hn := hrd.nc
  have hm := hrd.cm
  unfold maxLen at hm
  go_enter Tryz.func118, Tryz.ntmps118
  go_wp2
  go_loop [3, 5, 11] (fun z _ i => ∃ k : Nat, k ≤ ls.length ∧ i = .int .i64 k ∧ z = .int .i64 ((ls.take k).flatten.length : Nat)) (fun _ _ i => ls.length - (intOf i).toNat)
  case atStart => exact ⟨0, Nat.zero_le _, rfl, rfl⟩
  case round =>
    obtain ⟨k, hk, rfl, rfl⟩ := hrel
    have hfl := flat_le ls k
    by_cases hlt : k < ls.length
    · obtain ⟨b, o, rfl⟩ := hrd.addr (by omega)
      obtain ⟨u, hu, ⟨A', c', rfl, hr'⟩⟩ := HAT.out k hlt
      have hcell := hrd.get hu
      have hsn := congrArg List.length (flat_snoc ls hlt)
      rw [List.length_append] at hsn
      have hfl2 := flat_le ls (k + 1)
      have HS := Lib.hid hsn
      have hsn2 : (ls.take k).flatten.length + ls[k].length ≤ 1099511627776 := by omega
      clear hsn hu
      have hk0 : (k : Int) < (ls.length : Int) := by omega
      generalize (ls.take k).flatten.length = z at *
      go_wp2
      go_round
      case rel => exact ⟨k + 1, by omega, by go_num, by rw [HS.out]; go_num⟩
      case measure => simp [intOf]; omega
    · obtain rfl : k = ls.length := by omega
      rw [List.take_length] at *
      clear hfl
      have hG := grow_nil ls.flatten.length w hl
      generalize hz : ls.flatten.length = z at *
      have HZ := Lib.hid hz
      have HG := Lib.hid hG
      clear hG hz
      go_wp2_with (go_at_call 138; refine HG.out.mono ?_; rintro e w1 ⟨v1, rfl, ho1, he1⟩)
      go_loopw [6, 8, 27] (fun y _ i wr => ∃ (k : Nat) (l' : List UInt8), k ≤ ls.length ∧ i = .int .i64 k ∧ l' = (ls.take k).flatten ∧ OB 5 w.heap.size wr y l' ∧ Ext w wr) (fun _ _ i _ => ls.length - (intOf i).toNat)
      case atStart => exact ⟨0, [], Nat.zero_le _, rfl, rfl, ho1, he1⟩
      case round =>
        obtain ⟨k, l', hk, rfl, hl', hown, hext⟩ := hrel
        have HL' := Lib.hid hl'
        have hfl := flat_le ls k
        rw [← hl', HZ.out] at hfl
        clear hl'
        by_cases hlt : k < ls.length
        · obtain ⟨b, o, rfl⟩ := hrd.addr (by omega)
          obtain ⟨u, hu, hru⟩ := HAT.out k hlt
          have hcell := (hrd.ext hext).get hu
          have hru' := hru.ext hext
          obtain ⟨A', c', rfl, hr'⟩ := hru
          have hsn := flat_snoc ls hlt
          have hfl2 := flat_le ls (k + 1)
          rw [hsn, ← HL'.out, List.length_append, HZ.out] at hfl2
          rw [← HL'.out] at hsn
          have HS := Lib.hid hsn
          have HR := Lib.hid hru'
          have HO := Lib.hid hown
          clear hsn hu hru' hown
          have hk0 : (k : Int) < (ls.length : Int) := by omega
          go_wp2_with (at_builtin; refine wpList_app rfl elemB _ _ _ rfl w.heap.size _ l'.length (l'.map byteV) rfl HO.out _ ls[k].length (ls[k].map byteV) rfl HR.out (one_byteV _) (by omega) (by unfold maxLen; omega) hext.size ?_; intro v' w' ha)
          go_roundw
          case rel => exact ⟨k + 1, l' ++ ls[k], by omega, by go_num, HS.out.symm, by have := ha.own; simpa [OB] using this, ha.ext hext rfl HO.out⟩
          case measure => simp [intOf]; omega
        · obtain rfl : k = ls.length := by omega
          rw [List.take_length] at HL'
          go_wp2
          go_ret
          exact ⟨_, rfl, by rw [← HL'.out]; exact hown, hext⟩
end Go.Proofs.YtpmpjjhchkoboaaGreatDoor
