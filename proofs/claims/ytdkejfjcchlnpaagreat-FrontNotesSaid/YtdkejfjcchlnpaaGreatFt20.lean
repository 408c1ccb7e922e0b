/-
  GrUsersR, packed: what the claim needs of them.
-/
import Derived.Test.YtdkejfjcchlnpaaGreatFt18
set_option maxHeartbeats 40000000
open Go.Lib (hid)
set_option linter.unusedSimpArgs false
set_option linter.unusedVariables false
set_option maxRecDepth 100000
namespace Go.Ox.Gr
def a4R (top : Bool) (name : Int) (n : Nd) (q : Int × Int) : List ((Int × Int) × Int) := if decide (q.2 < 0) = top then nmN name q n.ins else []
def a5q (top : Bool) (name : Int) (n : Nd) (q : Int × Int) : List ((Int × Int) × Int) := if top = true then (if n.op = 11 ∧ n.a = name then [(q, 0)] else []) else []
def a2y (top : Bool) (name : Int) (l : List Nd) (ps : List (Int × Int)) : List ((Int × Int) × Int) := ps.flatMap fun q => a4R top name ((nodeAt l q).getD default) q
def a4F (top : Bool) (name : Int) (l : List Nd) (ps : List (Int × Int)) : List ((Int × Int) × Int) := ps.flatMap fun q => a5q top name ((nodeAt l q).getD default) q
def ru (top : Bool) (name : Int) (l : List Nd) : List ((Int × Int) × Int) := a2y top name l (a0a l) ++ a4F top name l (a0a l)
theorem a71 {α β : Type} (f : α -> List β) (l : List α) {k : Nat} (h : k < l.length) : (l.take (k + 1)).flatMap f = (l.take k).flatMap f ++ f l[k] := by
 rw [List.take_succ_eq_append_getElem h, List.flatMap_append]; simp
theorem a73 {α β : Type} (f : α -> List β) (c : Nat) : ∀ (l : List α), (∀ x ∈ l, (f x).length <= c) -> (l.flatMap f).length <= l.length * c
 | [], _ => by simp
 | x :: l, h => by
  have h1 := a73 f c l fun y hy => h y (List.mem_cons_of_mem _ hy)
  have h2 := h x (List.mem_cons_self ..);rw [List.flatMap_cons, List.length_append, List.length_cons, Nat.add_mul];omega
theorem b4j (top : Bool) (name : Int) (n : Nd) (q : Int × Int) : (a4R top name n q).length <= n.ins.length := by
 unfold a4R
 split
 . exact a5p _ _ _
 simp
theorem b4k (top : Bool) (name : Int) (n : Nd) (q : Int × Int) : (a5q top name n q).length <= 1 := by
 unfold a5q
 split
 . split <;> simp
 simp
def Lk (l : List Nd) : Prop := l.length <= 100 ∧ ∀ n ∈ l, n.body.length <= 100 ∧ n.ins.length <= 100 ∧ ∀ m ∈ n.body, m.ins.length <= 100
theorem Lk.at_ {l : List Nd} (h : Lk l) {q : Pl} {n : Nd} (hn : nodeAt l q = some n) : n.ins.length <= 100 := by
 unfold nodeAt at hn
 split at hn
 . cases hm : l[q.1.toNat]? with
   | none => rw [hm] at hn; cases hn
   | some m =>
    rw [hm] at hn;have h1 := h.2 m (List.mem_of_getElem? hm);simp only at hn
    split at hn
    . injection hn with hn; subst hn; exact h1.2.1
    split at hn
    . exact h1.2.2 n (List.mem_of_getElem? hn)
    cases hn
 cases hn
theorem a9F (top : Bool) (name : Int) {l : List Nd} (h : Lk l) (ps : List Pl) (hp : ∀ q ∈ ps, q ∈ a0a l) (hl : ps.length <= 10100) : (a2y top name l ps).length <= 1010000 := by
 have := a73 (fun q => a4R top name ((nodeAt l q).getD default) q) 100 ps (fun q hq => by
  obtain ⟨n, hn⟩ := Option.isSome_iff_exists.1 (a2l.1 (hp q hq));rw [hn]
  exact Nat.le_trans (b4j _ _ _ _) (h.at_ hn))
 unfold a2y;omega
theorem a9G (top : Bool) (name : Int) (l : List Nd) (ps : List Pl) (hl : ps.length <= 10100) : (a4F top name l ps).length <= 10100 := by
 have := a73 (fun q => a5q top name ((nodeAt l q).getD default) q) 1 ps (fun q hq => b4k _ _ _ _)
 unfold a4F;omega
end Go.Ox.Gr
namespace Go.Proofs.YtdkejfjcchlnpaaGreat
open Go.RowKit Go.Ox Go.Ox.Gr
attribute [local irreducible] RE OE a00
theorem a5r {P : Program} {t e : TypeId} {z : Value} {bytes : Nat} {ops : Array Oper} {rest : List Oper} {o : Oper} {a : Act} {Q : Exit -> Act -> World -> Prop} (hgd : o.guard = none) (el : Elem P t e z 3 bytes) (w : World) (s x : Operand)
 (ho : o.op = .call { callee := .builtin .append, args := #[s, x], argTypes := #[t, t] })
 (base : Nat) (v vx : Value) (l r : List Po) (hs : a.eval s = v) (hown : OE e base w v l) (hx : a.eval x = vx) (hr : RE w vx r)
 (hb : (l.length + r.length) * bytes <= 140737488355328) (hm : l.length + r.length <= maxLen) (hbase : base <= w.heap.size)
 (h : ∀ v' w', OE e base w' v' (l ++ r) -> w.grownBy w' v.ownBlock -> (v'.ownBlock = v.ownBlock ∨ v'.ownBlock = some w.heap.size) -> wpList P ops Q rest (a.put o.dst v') w') : wpList P ops Q (o :: rest) a w :=
 a0v hgd el w s x ho base v l.length (eV l) hs hown.own vx r.length (eV r) hx hr.rd (a2P r) hb hm hbase fun v' w' ha => h v' w' (OE.app ha.own) ha.grown ha.at_
theorem Bx6.b5p {w w' : World} {q : Nat} {T : TypeId} {a0 a1 a2 a3 a4 a5 : Value} {row : Option Nat} (h : Bx6 w q T a0 a1 a2 a3 a4 a5) (hg : w.grownBy w' row) (hr : row ≠ some q) : Bx6 w' q T a0 a1 a2 a3 a4 a5 :=
 ⟨(hg.block q h.b.lt (fun e => hr e.symm)).trans h.b⟩
theorem a5s (d : Nat) (v : Value) (l : List Nd) (out : Int) (q : Pl) (hk : Lk l) (hq : q ∈ a0a l) :
 ∃ n, nodeAt l q = some n ∧ ∀ w00 w, a00 d w00 v l -> Ext w00 w -> Calls Tryz.prog 52 #[gAg v out, plV q] w fun e w' => ∃ u b, e = .returned (.tuple #[a1e n.op n.kind n.fa n.a u b, .bool true]) ∧ RE w00 u n.ins ∧ a00 (d - 1) w00 b n.body ∧ Ext w w' := by
 obtain ⟨n, hn⟩ := Option.isSome_iff_exists.1 (a2l.1 hq);refine ⟨n, hn, fun w00 w hv he => ?_⟩
 have hbl : ∀ n ∈ l, n.body.length <= 100 := fun n h => (hk.2 n h).1
 obtain ⟨q1, q2⟩ := q;unfold nodeAt at hn;dsimp only at hn
 split at hn
 case isFalse => cases hn
 case isTrue h0 =>
  cases hm : l[q1.toNat]? with
  | none => rw [hm] at hn; cases hn
  | some m =>
  rw [hm] at hn;simp only at hn;obtain ⟨i, rfl⟩ : ∃ i : Nat, q1 = (i : Int) := ⟨q1.toNat, by omega⟩
  have hm' : l[i]? = some m := hm
  split at hn
  . rename_i h1
    injection hn with hn
    subst hn;subst h1;obtain ⟨op, ins, kind, fa, a, body⟩ := m;exact a7P d v l out i op kind fa a ins body w00 w hv he hk.1 hbl hm' hq
  split at hn
  . rename_i h1 h2
    obtain ⟨j, rfl⟩ : ∃ j : Nat, q2 = (j : Int) := ⟨q2.toNat, by omega⟩
    obtain ⟨op, ins, kind, fa, a, body⟩ := m;have hn' : body[j]? = some n := hn;obtain ⟨mop, mins, mkind, mfa, ma, mbody⟩ := n;refine (a9A d v l out i j op kind fa a ins body mop mkind mfa ma mins mbody w00 w hv he hk.1 hbl hm' hn' hq).mono ?_;rintro e w' ⟨u, b, h1, h2, h3, h4⟩;exact ⟨u, b, h1, h2, h3.le (by omega), h4⟩
  cases hn
theorem b0J (d : Nat) (v : Value) (l : List Nd) (out pi pj : Int) (w : World) (hv : a00 d w v l) (hk : Lk l) (hj : pj < 0) :
 Calls Tryz.prog 153 #[gAg v out, plV (pi, pj)] w fun e w' => ∃ u, e = .returned u ∧ RE w' u (ru true pi l) ∧ Ext w w' := by
 obtain ⟨A, c, rfl⟩ := hv.form;have HX0 := hid (((Ext.refl w).alloc (gCs (.slice A l.length c) out)).alloc (a2x pi pj));have HG0 := hid ((Blk.new w 24 #[.slice A l.length c, .int .i64 out]).ext ((Ext.refl _).alloc (a2x pi pj)));have HP0 := hid (Blk.new (w.alloc (gCs (.slice A l.length c) out)) 27 #[.int .i64 pi, .int .i64 pj]);have HPL := hid (fun w h => a0X d (.slice A l.length c) l out w h hk.1 (fun n hn => (hk.2 n hn).1))
 have HLN := hid (show (a0a l).length <= 10100 by have := a16 l l.length (fun n hn => (hk.2 n hn).1) hk.1; rwa [List.take_length] at this)
 have HND := hid (fun (q : Pl) (hq : q ∈ a0a l) => a5s d (.slice A l.length c) l out q hk hq)
 have HLK := hid hk;have HL0 := hid (fun (k : Nat) => a9F true pi hk ((a0a l).take k) (fun q hq => List.mem_of_mem_take hq) (by rw [List.length_take]; have := HLN.o; omega))
 have HL1 := hid (fun (k : Nat) => a9G true pi l ((a0a l).take k) (by rw [List.length_take]; have := HLN.o; omega))
 have HV := hid (hv.ext HX0.o);have HJ := hid hj;clear hv hk
 go_enter Tryz.func153, Tryz.ntmps153
 go_upto_region 1 with fail
 obtain ⟨p, hp⟩ : ∃ p, p = w.heap.size := ⟨_, rfl⟩;have hq : (w.alloc (gCs (.slice A l.length c) out)).heap.size = p + 1 := by rw [hp]; simp
 rw [hq] at HP0;rw [<- hp] at HG0 ⊢;clear hp hq;generalize (w.alloc (gCs (.slice A l.length c) out)).alloc (a2x pi pj) = w0 at *;have g0 := HG0.o.c0;have g1 := HG0.o.c1
 go_wp2_with fail
 refine (HPL.o _ HV.o).mono ?_;rintro e w1 ⟨up, rfl, hpl, he1⟩;have HS1 := hid hpl.re;obtain ⟨AP, cP, rfl⟩ := hpl.re.form;have HX1 := hid (HX0.o.trans he1);have HG1 := hid (HG0.o.ext he1);have HP1 := hid (HP0.o.ext he1);have HV1 := hid (HV.o.ext he1);clear he1 g0 g1 hpl;generalize hpp : a0a l = pl at *;have HPP := hid hpp;clear hpp
 go_wp2
 go_loopw [5, 7] (fun o pv wr => ∃ ps : Nat, ps <= 2 ∧ pv = .int .i64 (ps : Int) ∧ OE 210 w1.heap.size wr o (if ps = 0 then [] else if ps = 1 then a2y true pi l pl else a2y true pi l pl ++ a4F true pi l pl) ∧ Ext w1 wr) (fun _ pv _ => 2 - (intOf pv).toNat)
 case atStart => exact ⟨0, by omega, rfl, OE.a2g _ _ _, Ext.refl _⟩
 case round =>
 obtain ⟨ps, hps, rfl, ho, hext⟩ := hrel;rename World => wa
 obtain ⟨AO, cO, hvo⟩ := ho.re.form;have HOA := hid ho;have HEA := hid hext
 by_cases h2 : ps = 2
 . subst h2
   rw [if_neg (by decide), if_neg (by decide)] at HOA
   clear ho hvo hext
   go_wp2
   go_ret
   exact ⟨_, rfl, by unfold ru; rw [HPP.o]; exact HOA.o.re, HX1.o.trans HEA.o⟩
 by_cases h0 : ps = 0
 . subst h0
   rw [if_pos rfl] at HOA;clear ho hvo hext
   go_wp2
   go_loopw [5, 8] (fun o iv wr => ∃ k : Nat, k <= pl.length ∧ iv = .int .i64 (k : Int) ∧ OE 210 w1.heap.size wr o (([] : List Po) ++ a2y true pi l (pl.take k)) ∧ Ext w1 wr) (fun _ iv _ => pl.length - (intOf iv).toNat)
   case atStart => exact ⟨0, Nat.zero_le _, rfl, by rw [show a2y true pi l (pl.take 0) = [] from rfl, List.append_nil]; exact HOA.o, HEA.o⟩
   case round =>
   obtain ⟨k, hk, rfl, ho, hext⟩ := hrel;rename World => wr
   have HE := hid hext;have HO := hid ho;obtain ⟨AO, cO, hvo⟩ := ho.re.form;have hkb : k <= 10100 := by have := HLN.o; omega
   have g0 := (HG1.o.ext hext).c0;have g1 := (HG1.o.ext hext).c1;have s0 := (HP1.o.ext hext).c0;have s1 := (HP1.o.ext hext).c1
   by_cases hlt : k < pl.length
   . have q1 : (k : Int) < (pl.length : Int) := by omega
     have q0 : 0 <= (k : Int) := by omega
     have q1n : k < pl.length := hlt;obtain ⟨bA, oA, rfl, y0, y1⟩ := rp2 HS1.o hlt;have HYW := hid (fun (W : World) (h : Ext w1 W) => And.intro (h.cell y0) (h.cell y1))
     have y0 := hext.cell y0;have y1 := hext.cell y1;obtain ⟨nd, hnd, hcl⟩ := HND.o pl[k] (List.getElem_mem hlt)
     have HS := hid (show a2y true pi l (pl.take (k + 1)) = a2y true pi l (pl.take k) ++ a4R true pi nd pl[k] by
      have := a71 (fun q => a4R true pi ((nodeAt l q).getD default) q) pl hlt
      simp only [hnd, Option.getD_some] at this
      exact this)
     have HLK1 := hid (show (([] : List Po) ++ a2y true pi l (pl.take k)).length + (a4R true pi nd pl[k]).length <= 2100000 by
      have h1 := HL0.o (k + 1);have h2 := HL0.o pl.length;rw [List.take_length] at h2;rw [HS.o, List.length_append] at h1;rw [List.length_append]
      try simp only [List.length_nil]
      omega)
     have HIL := hid (HLK.o.at_ hnd);generalize pl[k] = x at *;have HLT := hid hlt;obtain ⟨x1, x2⟩ := x;dsimp only at y0 y1;replace HYW := hid (show ∀ W, Ext w1 W -> W.cell? ⟨bA, oA + k * 2, none⟩ = some (.int .i64 x1) ∧ W.cell? ⟨bA, oA + k * 2 + 1, none⟩ = some (.int .i64 x2) from HYW.o);obtain ⟨mop, mins, mkind, mfa, ma, mbody⟩ := nd;replace HIL := hid (show mins.length <= 100 from HIL.o);have HCL := hid (show ∀ W, Ext wr W -> Calls Tryz.prog 52 #[gAg (.slice A l.length c) out, plV (x1, x2)] W fun e w' => ∃ u b, e = .returned (.tuple #[a1e mop mkind mfa ma u b, .bool true]) ∧ RE w1 u mins ∧ a00 (d - 1) w1 b mbody ∧ Ext W w' from fun W hW => hcl w1 W HV1.o (hext.trans hW))
     replace HS := hid (show ([] : List Po) ++ a2y true pi l (pl.take (k + 1)) = (([] : List Po) ++ a2y true pi l (pl.take k)) ++ a4R true pi (.mk mop mins mkind mfa ma mbody) (x1, x2) by rw [HS.o, List.append_assoc])
     generalize ([] : List Po) ++ a2y true pi l (pl.take k) = lk at *;have hA := World.block_lt_of_cell? wr _ y0;have hP := World.block_lt_of_cell? wr _ g0;simp only at hA hP;have hA1 : ¬ bA = wr.heap.size := by omega
     have hP1 : ¬ p = wr.heap.size := by omega
     clear hcl hnd ho hext hlt hk;subst hvo
     go_upto_region 9 with fail
     go_cut [9, 10] (fun s9 s10 wx => ∃ n9 Au cu Ab cb, s9 = .pointer (some ⟨n9, 0, none⟩) ∧ s10 = .bool true ∧ Bx6 wx n9 101 (.int .i64 mop) (.slice Au mins.length cu) (.int .i64 mkind) (.int .i64 mfa) (.int .i64 ma) (.slice Ab mbody.length cb) ∧ RE w1 (.slice Au mins.length cu) mins ∧ Ext wr wx ∧ wr.heap.size <= n9)
     case first =>
      clear HO HS HLK1 HIL HLN HL0 HL1 HOA HEA HJ HPP HS1 HND
      go_region_with (go_at_call 52; refine (HCL.o _ (by repeat (first | exact Ext.refl _ | refine Ext.drew ?_ | refine Ext.alloc ?_ _))).mono ?_; rintro e w5 ⟨u5, b5, rfl, hu5, hb5, he5⟩; obtain ⟨A5, c5, rfl⟩ := hu5.form; obtain ⟨B5, d5, rfl⟩ := hb5.form; try (have HBN := hid (((Bx6.new wr 101 (.int .i64 0) (.slice none 0 0) (.int .i64 0) (.int .i64 0) (.int .i64 0) (.slice none 0 0)).ext (Ext.refl _).drew).ext he5); obtain ⟨b0, b1, b2, b3, b4, b5⟩ := HBN.o.at_; have f0 : w5.frozen? ⟨wr.heap.size, 0, none⟩ = false := HBN.o.b.frozen 0; have f1 : w5.frozen? ⟨wr.heap.size, 1, none⟩ = false := HBN.o.b.frozen 1; have f2 : w5.frozen? ⟨wr.heap.size, 2, none⟩ = false := HBN.o.b.frozen 2; have f3 : w5.frozen? ⟨wr.heap.size, 3, none⟩ = false := HBN.o.b.frozen 3; have f4 : w5.frozen? ⟨wr.heap.size, 4, none⟩ = false := HBN.o.b.frozen 4; have f5 : w5.frozen? ⟨wr.heap.size, 5, none⟩ = false := HBN.o.b.frozen 5))
      all_goals go_wp2
      all_goals go_meet
      all_goals first
       | exact ⟨_, _, _, _, _, rfl, rfl, HBN.o.fill (.int .i64 mop) (.slice A5 mins.length c5) (.int .i64 mkind) (.int .i64 mfa) (.int .i64 ma) (.slice B5 mbody.length d5), hu5, (((Ext.refl wr).alloc _).drew.trans he5).a3Z (a3G (ExtQ.refl (fun k => k = wr.heap.size) w5) (q := wr.heap.size) rfl (.int .i64 mop) (.slice A5 mins.length c5) (.int .i64 mkind) (.int .i64 mfa) (.int .i64 ma) (.slice B5 mbody.length d5)) (fun g hg => Nat.le_of_eq hg.symm), Nat.le_refl _⟩
       | exact ⟨_, _, _, _, _, rfl, rfl, Bx6.new w5 101 (.int .i64 mop) (.slice A5 mins.length c5) (.int .i64 mkind) (.int .i64 mfa) (.int .i64 ma) (.slice B5 mbody.length d5), hu5, ((Ext.refl wr).drew.trans he5).alloc _, he5.size⟩
     case rest =>
     obtain ⟨n9, Au, cu, Ab, cb, rfl, rfl, hb9, hu9, hx9, hn9⟩ := hcut;rename World => w9
     have HB9 := hid hb9;have HU9 := hid hu9;have HE9 := hid (HE.o.trans hx9);have HO9 := hid (HO.o.ext hx9);have y0 := hx9.cell y0;have y1 := hx9.cell y1;have s0 := hx9.cell s0;have s1 := hx9.cell s1;have HNE := hid (show (Value.slice AO lk.length cO).ownBlock ≠ some n9 from fun q => by have h1 := (HO.o.own.lt _ q).2; omega)
     clear hb9 hu9 hx9 hn9 g0 g1 hA hP hA1 hP1;obtain ⟨b0, b1, b2, b3, b4, b5⟩ := HB9.o.at_;have hjd : decide (pj < 0) = true := by simpa using HJ.o
     by_cases hxq : x2 < 0
     . have hxd : decide (x2 < 0) = true := by simpa using hxq
       have HQ := hid (show a4R true pi (.mk mop mins mkind mfa ma mbody) (x1, x2) = nmN pi (x1, x2) mins from if_pos hxd);rw [HQ.o] at HS HLK1;clear HQ
       go_upto_region 12 with fail
       go_quiet (fail)
       clear hxd hjd hxq
       go_wp2
       clear b0 b1 b2 b3 b4 b5 y0 y1 s0 s1
       go_loopw [5, 11] (fun o iv wx => ∃ j : Nat, j <= mins.length ∧ iv = .int .i64 (j : Int) ∧ OE 210 w1.heap.size wx o (lk ++ nmN pi (x1, x2) (mins.take j)) ∧ Ext w1 wx ∧ Bx6 wx n9 101 (.int .i64 mop) (.slice Au mins.length cu) (.int .i64 mkind) (.int .i64 mfa) (.int .i64 ma) (.slice Ab mbody.length cb) ∧ o.ownBlock ≠ some n9) (fun _ iv _ => mins.length - (intOf iv).toNat)
       case atStart => exact ⟨0, Nat.zero_le _, rfl, by rw [show nmN pi (x1, x2) (mins.take 0) = [] from rfl, List.append_nil]; exact HO9.o.ext ((Ext.refl _).drewN _), HE9.o.drewN _, HB9.o.ext ((Ext.refl _).drewN _), HNE.o⟩
       case round =>
       obtain ⟨j, hj, rfl, ho, hext, hbx, hne⟩ := hrel;rename World => wx
       have HOX := hid ho;have HE1 := hid hext;have HBX := hid hbx;have HNX := hid hne;obtain ⟨AX, cX, hvx⟩ := ho.re.form;have hj100 : j <= 100 := by have := HIL.o; omega
       obtain ⟨b0, b1, b2, b3, b4, b5⟩ := hbx.at_;obtain ⟨y0, y1⟩ := HYW.o wx hext;have s0 := (HP1.o.ext hext).c0;have s1 := (HP1.o.ext hext).c1;clear hbx hne
       by_cases hjl : j < mins.length
       . have r1 : (j : Int) < (mins.length : Int) := by omega
         have r0 : 0 <= (j : Int) := by omega
         have r1n : j < mins.length := hjl;obtain ⟨bI, oI, rfl, i0⟩ := ri1 (RE.ext HU9.o hext) hjl;have HSJ := hid (b6h pi (x1, x2) mins hjl)
         have HLJ := hid (show (lk ++ nmN pi (x1, x2) (mins.take j)).length <= 2100100 by
          have h1 := HLK1.o;have h2 := a5p pi (x1, x2) (mins.take j);have h3 := HIL.o;rw [List.length_take] at h2
          rw [List.length_append]; omega)
         generalize mins[j] = xi at *;have HJL := hid hjl;have hjp := HJ.o;have hjd : decide (pj < 0) = true := by simpa using HJ.o
         have hjg : decide (pj ≥ 0) = false := by simpa using HJ.o
         clear hext hjl hj ho
         by_cases hxi : xi = pi
         . rw [if_pos hxi] at HSJ
           subst hxi;have HAS := hid (show lk ++ nmN xi (x1, x2) (mins.take (j + 1)) = (lk ++ nmN xi (x1, x2) (mins.take j)) ++ [((x1, x2), (j : Int))] by rw [HSJ.o, List.append_assoc])
           generalize lk ++ nmN xi (x1, x2) (mins.take j) = lj at *;subst hvx
           go_upto_region 16 with fail
           go_quiet (fail)
           clear hjd hjg hjp;generalize hwd : World.drewN wx _ = wd;have hdn : Ext wx wd := by rw [<- hwd]; exact (Ext.refl wx).drewN _
           clear hwd;have y0 := hdn.cell y0;have y1 := hdn.cell y1;have HL1 := hid (RE.lit wd #[.int .i64 x1, .int .i64 x2, .int .i64 (j : Int)] 210 1 [(((x1, x2), (j : Int)) : Po)] rfl (by omega) rfl)
           have HXA := hid (hdn.alloc (.cells #[.int .i64 x1, .int .i64 x2, .int .i64 (j : Int)] 210));have HOL := hid (HOX.o.ext HXA.o);have HBL := hid (HBX.o.ext HXA.o);have HXC := hid (HE1.o.trans HXA.o);clear hdn b0 b1 b2 b3 b4 b5 s0 s1 i0
           go_wp2_with (at_builtin; refine a5r rfl a7R _ _ _ rfl w1.heap.size _ _ lj [(((x1, x2), (j : Int)) : Po)] rfl HOL.o rfl HL1.o (by have := HLJ.o; simp; omega) (by have := HLJ.o; unfold maxLen; simp; omega) HXC.o.size ?_; intro v8 w8 ho8 hg8 hat8; have HHH := hid (And.intro ho8 (And.intro hg8 hat8)); clear ho8 hg8 hat8)
           have HX8 := hid (HXC.o.grown HHH.o.2.1 fun g hg => (HOL.o.own.lt g hg).1)
           have HB8 := hid (HBL.o.b5p HHH.o.2.1 HNX.o)
           have HN8 := hid (show v8.ownBlock ≠ some n9 from (by
            rcases HHH.o.2.2 with q | q
            . rw [q]; exact HNX.o
            rw [q]; intro e; injection e with e; have h9 := HBL.o.b.lt; rw [<- e] at h9; exact absurd h9 (Nat.lt_irrefl _)))
           exact ⟨⟨j + 1, HJL.o, by go_num, by rw [HAS.o]; exact HHH.o.1, HX8.o, HB8.o, HN8.o⟩, by have := HJL.o; simp [intOf]; omega⟩
         rw [if_neg hxi, List.append_nil] at HSJ;have hxb : (xi == pi) = false := by simpa using hxi
         have HAS := hid (show lk ++ nmN pi (x1, x2) (mins.take (j + 1)) = lk ++ nmN pi (x1, x2) (mins.take j) by rw [HSJ.o])
         generalize lk ++ nmN pi (x1, x2) (mins.take j) = lj at *
         go_upto_region 16 with fail
         go_quiet (fail)
         clear hjd hjg hjp hxb hxi
         go_wp2
         exact ⟨⟨j + 1, HJL.o, by go_num, by rw [HAS.o]; exact HOX.o.ext ((Ext.refl _).drewN _), HE1.o.drewN _, HBX.o.ext ((Ext.refl _).drewN _), by subst hvx; exact HNX.o⟩, by have := HJL.o; simp [intOf]; omega⟩
       obtain rfl : j = mins.length := by omega
       have r1 : ¬ (mins.length : Int) < (mins.length : Int) := by omega
       rw [List.take_length] at HOX;clear ho hext hjl hj
       go_wp2
       go_roundw
       case rel => (repeat apply Exists.intro); exact ⟨⟨k + 1, HLT.o, by go_num, by rw [HS.o]; exact HOX.o, HE1.o⟩, rfl⟩
       case measure => have := HLT.o; simp [intOf]; omega
     have hxd : decide (x2 < 0) = false := by simpa using hxq
     have HSS := hid (show ([] : List Po) ++ a2y true pi l (pl.take (k + 1)) = lk by rw [HS.o, show a4R true pi (.mk mop mins mkind mfa ma mbody) (x1, x2) = [] from if_neg (by rw [hxd]; decide), List.append_nil])
     go_upto_region 12 with fail
     go_quiet (fail)
     go_wp2
     go_roundw
     case rel => exact ⟨k + 1, HLT.o, by go_num, by rw [HSS.o]; exact HO9.o.ext ((Ext.refl _).drewN _), HE9.o.drewN _⟩
     case measure => have := HLT.o; simp [intOf]; omega
   obtain rfl : k = pl.length := by omega
   have q1 : ¬ (pl.length : Int) < (pl.length : Int) := by omega
   rw [List.take_length, List.nil_append] at HO;clear ho hvo hext hk hlt
   go_wp2
   exact ⟨⟨1, by omega, by go_num, by rw [if_neg (by decide), if_pos rfl]; exact HO.o, HE.o⟩, by simp [intOf]⟩
 have h1 : ps = 1 := by omega
 subst h1;rw [if_neg (by decide), if_pos rfl] at HOA
 clear ho hvo hext
 go_wp2
 go_loopw [5, 8] (fun o iv wr => ∃ k : Nat, k <= pl.length ∧ iv = .int .i64 (k : Int) ∧ OE 210 w1.heap.size wr o (a2y true pi l pl ++ a4F true pi l (pl.take k)) ∧ Ext w1 wr) (fun _ iv _ => pl.length - (intOf iv).toNat)
 case atStart => exact ⟨0, Nat.zero_le _, rfl, by rw [show a4F true pi l (pl.take 0) = [] from rfl, List.append_nil]; exact HOA.o, HEA.o⟩
 case round =>
 obtain ⟨k, hk, rfl, ho, hext⟩ := hrel;rename World => wr
 have HE := hid hext;have HO := hid ho;obtain ⟨AO, cO, hvo⟩ := ho.re.form;have hkb : k <= 10100 := by have := HLN.o; omega
 have g0 := (HG1.o.ext hext).c0;have g1 := (HG1.o.ext hext).c1;have s0 := (HP1.o.ext hext).c0;have s1 := (HP1.o.ext hext).c1
 by_cases hlt : k < pl.length
 . have q1 : (k : Int) < (pl.length : Int) := by omega
   have q0 : 0 <= (k : Int) := by omega
   have q1n : k < pl.length := hlt;obtain ⟨bA, oA, rfl, y0, y1⟩ := rp2 HS1.o hlt;have HYW := hid (fun (W : World) (h : Ext w1 W) => And.intro (h.cell y0) (h.cell y1))
   have y0 := hext.cell y0;have y1 := hext.cell y1;obtain ⟨nd, hnd, hcl⟩ := HND.o pl[k] (List.getElem_mem hlt)
   have HS := hid (show a4F true pi l (pl.take (k + 1)) = a4F true pi l (pl.take k) ++ a5q true pi nd pl[k] by
    have := a71 (fun q => a5q true pi ((nodeAt l q).getD default) q) pl hlt
    simp only [hnd, Option.getD_some] at this
    exact this)
   have HLK1 := hid (show (a2y true pi l pl ++ a4F true pi l (pl.take k)).length + (a5q true pi nd pl[k]).length <= 2100000 by
    have h1 := HL1.o (k + 1);have h2 := HL0.o pl.length;rw [List.take_length] at h2;rw [HS.o, List.length_append] at h1;rw [List.length_append]
    try simp only [List.length_nil]
    omega)
   have HIL := hid (HLK.o.at_ hnd);generalize pl[k] = x at *;have HLT := hid hlt;obtain ⟨x1, x2⟩ := x;dsimp only at y0 y1;replace HYW := hid (show ∀ W, Ext w1 W -> W.cell? ⟨bA, oA + k * 2, none⟩ = some (.int .i64 x1) ∧ W.cell? ⟨bA, oA + k * 2 + 1, none⟩ = some (.int .i64 x2) from HYW.o);obtain ⟨mop, mins, mkind, mfa, ma, mbody⟩ := nd;replace HIL := hid (show mins.length <= 100 from HIL.o);have HCL := hid (show ∀ W, Ext wr W -> Calls Tryz.prog 52 #[gAg (.slice A l.length c) out, plV (x1, x2)] W fun e w' => ∃ u b, e = .returned (.tuple #[a1e mop mkind mfa ma u b, .bool true]) ∧ RE w1 u mins ∧ a00 (d - 1) w1 b mbody ∧ Ext W w' from fun W hW => hcl w1 W HV1.o (hext.trans hW))
   replace HS := hid (show a2y true pi l pl ++ a4F true pi l (pl.take (k + 1)) = (a2y true pi l pl ++ a4F true pi l (pl.take k)) ++ a5q true pi (.mk mop mins mkind mfa ma mbody) (x1, x2) by rw [HS.o, List.append_assoc])
   generalize a2y true pi l pl ++ a4F true pi l (pl.take k) = lk at *;have hA := World.block_lt_of_cell? wr _ y0;have hP := World.block_lt_of_cell? wr _ g0;simp only at hA hP;have hA1 : ¬ bA = wr.heap.size := by omega
   have hP1 : ¬ p = wr.heap.size := by omega
   clear hcl hnd ho hext hlt hk;subst hvo
   go_upto_region 9 with fail
   go_cut [9, 10] (fun s9 s10 wx => ∃ n9 Au cu Ab cb, s9 = .pointer (some ⟨n9, 0, none⟩) ∧ s10 = .bool true ∧ Bx6 wx n9 101 (.int .i64 mop) (.slice Au mins.length cu) (.int .i64 mkind) (.int .i64 mfa) (.int .i64 ma) (.slice Ab mbody.length cb) ∧ RE w1 (.slice Au mins.length cu) mins ∧ Ext wr wx ∧ wr.heap.size <= n9)
   case first =>
    clear HO HS HLK1 HIL HLN HL0 HL1 HOA HEA HJ HPP HS1 HND
    go_region_with (go_at_call 52; refine (HCL.o _ (by repeat (first | exact Ext.refl _ | refine Ext.drew ?_ | refine Ext.alloc ?_ _))).mono ?_; rintro e w5 ⟨u5, b5, rfl, hu5, hb5, he5⟩; obtain ⟨A5, c5, rfl⟩ := hu5.form; obtain ⟨B5, d5, rfl⟩ := hb5.form; try (have HBN := hid (((Bx6.new wr 101 (.int .i64 0) (.slice none 0 0) (.int .i64 0) (.int .i64 0) (.int .i64 0) (.slice none 0 0)).ext (Ext.refl _).drew).ext he5); obtain ⟨b0, b1, b2, b3, b4, b5⟩ := HBN.o.at_; have f0 : w5.frozen? ⟨wr.heap.size, 0, none⟩ = false := HBN.o.b.frozen 0; have f1 : w5.frozen? ⟨wr.heap.size, 1, none⟩ = false := HBN.o.b.frozen 1; have f2 : w5.frozen? ⟨wr.heap.size, 2, none⟩ = false := HBN.o.b.frozen 2; have f3 : w5.frozen? ⟨wr.heap.size, 3, none⟩ = false := HBN.o.b.frozen 3; have f4 : w5.frozen? ⟨wr.heap.size, 4, none⟩ = false := HBN.o.b.frozen 4; have f5 : w5.frozen? ⟨wr.heap.size, 5, none⟩ = false := HBN.o.b.frozen 5))
    all_goals go_wp2
    all_goals go_meet
    all_goals first
     | exact ⟨_, _, _, _, _, rfl, rfl, HBN.o.fill (.int .i64 mop) (.slice A5 mins.length c5) (.int .i64 mkind) (.int .i64 mfa) (.int .i64 ma) (.slice B5 mbody.length d5), hu5, (((Ext.refl wr).alloc _).drew.trans he5).a3Z (a3G (ExtQ.refl (fun k => k = wr.heap.size) w5) (q := wr.heap.size) rfl (.int .i64 mop) (.slice A5 mins.length c5) (.int .i64 mkind) (.int .i64 mfa) (.int .i64 ma) (.slice B5 mbody.length d5)) (fun g hg => Nat.le_of_eq hg.symm), Nat.le_refl _⟩
     | exact ⟨_, _, _, _, _, rfl, rfl, Bx6.new w5 101 (.int .i64 mop) (.slice A5 mins.length c5) (.int .i64 mkind) (.int .i64 mfa) (.int .i64 ma) (.slice B5 mbody.length d5), hu5, ((Ext.refl wr).drew.trans he5).alloc _, he5.size⟩
   case rest =>
   obtain ⟨n9, Au, cu, Ab, cb, rfl, rfl, hb9, hu9, hx9, hn9⟩ := hcut;rename World => w9
   have HB9 := hid hb9;have HU9 := hid hu9;have HE9 := hid (HE.o.trans hx9);have HO9 := hid (HO.o.ext hx9);have y0 := hx9.cell y0;have y1 := hx9.cell y1;have s0 := hx9.cell s0;have s1 := hx9.cell s1;have HNE := hid (show (Value.slice AO lk.length cO).ownBlock ≠ some n9 from fun q => by have h1 := (HO.o.own.lt _ q).2; omega)
   clear hb9 hu9 hx9 hn9 g0 g1 hA hP hA1 hP1;obtain ⟨b0, b1, b2, b3, b4, b5⟩ := HB9.o.at_;have hjp := HJ.o
   by_cases hop : mop = 11 ∧ ma = pi
   . have HQ := hid (show a5q true pi (.mk mop mins mkind mfa ma mbody) (x1, x2) = [((x1, x2), 0)] from by unfold a5q; rw [if_pos rfl]; exact if_pos hop)
     rw [HQ.o] at HS HLK1;clear HQ;obtain ⟨hop1, hop2⟩ := hop;subst hop1;subst hop2;have HL1 := hid (RE.lit w9 #[.int .i64 x1, .int .i64 x2, .int .i64 0] 210 1 [(((x1, x2), 0) : Po)] rfl (by omega) rfl)
     have HXA := hid ((Ext.refl w9).alloc (.cells #[.int .i64 x1, .int .i64 x2, .int .i64 0] 210));have HOL := hid (HO9.o.ext HXA.o);have HXC := hid (HE9.o.trans HXA.o)
     go_upto_region 12 with (at_builtin; refine a07 rfl a7R _ _ _ rfl w1.heap.size _ _ lk [(((x1, x2), 0) : Po)] rfl HOL.o rfl HL1.o (by have := HLK1.o; simp only [List.length_cons, List.length_nil] at this ⊢; omega) (by have := HLK1.o; unfold maxLen; simp only [List.length_cons, List.length_nil] at this ⊢; omega) HXC.o.size ?_; intro v8 w8 ho8 hg8 hat8; have HX8 := hid (HXC.o.grown hat8 fun g hg => (HOL.o.own.lt g hg).1); have HO8 := hid ho8; clear ho8 hg8 hat8)
     go_quiet (fail)
     go_wp2
     go_roundw
     case rel => (repeat apply Exists.intro); exact ⟨⟨k + 1, HLT.o, by go_num, by rw [HS.o]; exact HO8.o.ext ((Ext.refl _).drewN _), HX8.o.drewN _⟩, rfl⟩
     case measure => have := HLT.o; simp [intOf]; omega
   have HSS := hid (show a2y true pi l pl ++ a4F true pi l (pl.take (k + 1)) = lk by rw [HS.o, show a5q true pi (.mk mop mins mkind mfa ma mbody) (x1, x2) = [] from by unfold a5q; rw [if_pos rfl]; exact if_neg hop, List.append_nil])
   by_cases h11 : mop = 11
   . have hma : (ma == pi) = false := by simpa using fun q => hop ⟨h11, q⟩
     subst h11;clear hop
     go_upto_region 12 with fail
     go_quiet (fail)
     go_wp2
     go_roundw
     case rel => exact ⟨k + 1, HLT.o, by go_num, by rw [HSS.o]; exact HO9.o.ext ((Ext.refl _).drewN _), HE9.o.drewN _⟩
     case measure => have := HLT.o; simp [intOf]; omega
   have hmo : (mop == 11) = false := by simpa using h11
   clear hop
   go_upto_region 12 with fail
   go_quiet (fail)
   go_wp2
   go_roundw
   case rel => exact ⟨k + 1, HLT.o, by go_num, by rw [HSS.o]; exact HO9.o.ext ((Ext.refl _).drewN _), HE9.o.drewN _⟩
   case measure => have := HLT.o; simp [intOf]; omega
 obtain rfl : k = pl.length := by omega
 have q1 : ¬ (pl.length : Int) < (pl.length : Int) := by omega
 rw [List.take_length] at HO;clear ho hvo hext hk hlt
 go_wp2
 exact ⟨⟨2, by omega, by go_num, by rw [if_neg (by decide), if_neg (by decide)]; exact HO.o, HE.o⟩, by simp [intOf]⟩
end Go.Proofs.YtdkejfjcchlnpaaGreat
