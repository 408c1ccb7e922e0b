/-
  PlRound, packed: what the claim needs of them.
-/
import Derived.Test.YtcacicgkebcdkaaPe17
set_option linter.unusedSimpArgs false
set_option linter.unusedVariables false
set_option maxRecDepth 100000
namespace Go.Ox.Pl
open Go.Ox.Gr
def varA (lp i0 n : Int) (v : Int × Int) : List Ar := [(((i0, -1), v), (true, 0)), (((lp, n - 1), v), (false, 1))]
def outA (lp n : Int) (v : Int × Int) : Ar := (((lp, n - 1), v), (false, 1))
def roundL (lp i0 : Int) (body : List Nd) : List Ar :=
  (((lp, (body.length : Int) - 1), (lp, -1)), (true, 0)) :: ((bgF lp 10 body 0).flatMap (varA lp i0 body.length) ++ (bgF lp 11 body 0).map (outA lp body.length))
theorem flat_take {l : List (Int × Int)} {k : Nat} {lp i0 n : Int} (h : k < l.length) : (l.take (k + 1)).flatMap (varA lp i0 n) = (l.take k).flatMap (varA lp i0 n) ++ varA lp i0 n l[k] := by
  rw [List.take_succ_eq_append_getElem h, List.flatMap_append]; simp
theorem map_take {l : List (Int × Int)} {k : Nat} {lp n : Int} (h : k < l.length) : (l.take (k + 1)).map (outA lp n) = (l.take k).map (outA lp n) ++ [outA lp n l[k]] := by
  rw [List.take_succ_eq_append_getElem h, List.map_append]; simp
theorem flat_len (lp i0 n : Int) : ∀ l : List (Int × Int), (l.flatMap (varA lp i0 n)).length = 2 * l.length
  | [] => rfl
  | v :: l => by rw [List.flatMap_cons, List.length_append, flat_len lp i0 n l]; simp [varA]; omega
end Go.Ox.Pl
namespace Go.Proofs.Ytcacicgkebcdkaa
open Go.RowKit Go.Ox Go.Ox.Gr
theorem OE.extK {α : Type} [C : Enc α] {Q : Nat → Prop} {E B : Nat} {w w' : World} {v : Value} {l : List α} (h : OE E B w v l) (he : ExtQ Q w w') (hq : ∀ k, v.ownBlock = some k → ¬ Q k) : OE E B w' v l := by
  unfold OE at *
  exact ownsRow_extQ h he hq
theorem wpList_appEA {α : Type} [C : Enc α] {P : Program} {t e : TypeId} {z : Value} {bytes : Nat} {ops : Array Oper} {rest : List Oper} {o : Oper} {a : Act} {Q : Exit → Act → World → Prop} (hgd : o.guard = none) (el : Elem P t e z C.k bytes) (w : World) (s x : Operand)
    (ho : o.op = .call { callee := .builtin .append, args := #[s, x], argTypes := #[t, t] })
    (base : Nat) (v vx : Value) (l r : List α) (hs : a.eval s = v) (hown : OE e base w v l) (hx : a.eval x = vx) (hr : RE w vx r)
    (hb : (l.length + r.length) * bytes ≤ 140737488355328) (hm : l.length + r.length ≤ maxLen) (hbase : base ≤ w.heap.size)
    (h : ∀ v' w', OE e base w' v' (l ++ r) → w.grownBy w' v.ownBlock → (v'.ownBlock = v.ownBlock ∨ v'.ownBlock = some w.heap.size) → wpList P ops Q rest (a.put o.dst v') w') : wpList P ops Q (o :: rest) a w :=
  wpList_app hgd el w s x ho base v l.length (eV l) hs hown.own vx r.length (eV r) hx hr.rd (one_eV r) hb hm hbase fun v' w' ha => h v' w' (OE.app ha.own) ha.grown ha.at_
theorem stepB {b0 : Nat} {w4 wr w7 : World} {o v7 : Value} (hx : ExtQ (fun i => i = b0) w4 wr) (hob : ∀ q, o.ownBlock = some q → q = b0 ∨ w4.heap.size ≤ q) {w5 : World} (he : Ext wr w5) (hg : w5.grownBy w7 o.ownBlock) (hat : v7.ownBlock = o.ownBlock ∨ v7.ownBlock = some w5.heap.size) :
    ExtQ (fun i => i = b0) w4 w7 ∧ ∀ q, v7.ownBlock = some q → q = b0 ∨ w4.heap.size ≤ q := by
  have h1 : ExtQ (fun i => i = b0 ∨ w4.heap.size ≤ i) w4 w7 := ((hx.mono fun i hi => .inl hi).trans (ExtQ.of he)).trans (ExtQ.grown hg fun q hq => hob q hq)
  refine ⟨h1.mono' fun i hi hq => hq.elim id fun e => by omega, fun q hq => ?_⟩
  rcases hat with e | e
  · rw [e] at hq; exact hob q hq
  · rw [e] at hq
    injection hq with hq
    have := hx.size
    have := he.size
    exact .inr (by omega)
theorem stepR {R0 : Nat → Prop} {w4 wr w7 : World} {o v7 : Value} (hx : ExtQ R0 w4 wr) (hob : ∀ q, o.ownBlock = some q → R0 q ∨ w4.heap.size ≤ q) {w5 : World} (he : Ext wr w5) (hg : w5.grownBy w7 o.ownBlock) (hat : v7.ownBlock = o.ownBlock ∨ v7.ownBlock = some w5.heap.size) :
    ExtQ R0 w4 w7 ∧ ∀ q, v7.ownBlock = some q → R0 q ∨ w4.heap.size ≤ q := by
  have h1 : ExtQ (fun i => R0 i ∨ w4.heap.size ≤ i) w4 w7 := ((hx.mono fun i hi => .inl hi).trans (ExtQ.of he)).trans (ExtQ.grown hg fun q hq => hob q hq)
  refine ⟨h1.mono' fun i hi hq => hq.elim id fun e => by omega, fun q hq => ?_⟩
  rcases hat with e | e
  · rw [e] at hq; exact hob q hq
  · rw [e] at hq
    injection hq with hq
    have := hx.size
    have := he.size
    exact .inr (by omega)
theorem own_litA (w : World) (x : Pl.Ar) : OE 39 w.heap.size (w.alloc (.cells (encA.enc x).toArray 39)) (.slice (some ⟨w.heap.size, 0, none⟩) 1 1) [x] := by
  unfold OE
  exact World.ownsRow_lit w _ 1 (Nat.le_refl _) (by unfold maxLen; omega) rfl
attribute [local irreducible] RE OE NodesR
set_option maxHeartbeats 4000000 in
theorem round_any (d : Nat) (v : Value) (l : List Nd) (out i0 : Int) (irest : List Int) (lp : Nat) (w : World) (hv : NodesR d w v l) (hlp : lp < l.length) (hin : (l[lp]).ins = i0 :: irest) (hb1 : 1 ≤ (l[lp]).body.length) (hbl : (l[lp]).body.length ≤ 100) :
    Calls Try.prog 30 #[gAg v out, .int .i64 lp] w fun e w' => ∃ u, e = .returned u ∧ OE 39 w.heap.size w' u (Pl.roundL lp i0 (l[lp]).body) ∧ Ext w w' := by
  have HBG10 := Lib.hid (fun w' (he : Ext w w') => begins_any d v l out 10 lp w' (hv.ext he) hlp hbl)
  have HBG11 := Lib.hid (fun w' (he : Ext w w') => begins_any d v l out 11 lp w' (hv.ext he) hlp hbl)
  obtain ⟨A, c, rfl⟩ := hv.form
  have HX0 := Lib.hid ((Ext.refl w).alloc (gCs (.slice A l.length c) out))
  have HB0 := Lib.hid (Blk.new w 24 #[.slice A l.length c, .int .i64 out])
  have hv0 := hv.ext HX0.out
  have q1 : (lp : Int) < (l.length : Int) := by omega
  obtain ⟨bA, oA, u, bv, rfl, e0, e1, e2, e3, e4, e5, hu, hbv⟩ := hv0.at_ hlp
  rw [hin] at hu
  have hbg := Pl.bgF_len lp 10 (l[lp]).body 0
  have hbg2 := Pl.bgF_len lp 11 (l[lp]).body 0
  generalize (l[lp]).body = body at *
  have HRL := Lib.hid (show Pl.roundL lp i0 body = ((((((lp : Nat) : Int), (body.length : Int) - 1), (((lp : Nat) : Int), (-1 : Int))), (true, (0 : Int))) : Pl.Ar) :: ((Pl.bgF lp 10 body 0).flatMap (Pl.varA lp i0 body.length) ++ (Pl.bgF lp 11 body 0).map (Pl.outA lp body.length)) from rfl)
  generalize Pl.roundL lp i0 body = RL at *
  generalize Pl.bgF lp 10 body 0 = BV at *
  generalize Pl.bgF lp 11 body 0 = BO at *
  obtain ⟨Ab, cb, rfl⟩ := hbv.form
  obtain ⟨Au, cu, rfl⟩ := hu.form
  obtain ⟨bU, oU, rfl, hcU⟩ := hu.at_ (i := 0) (by simp)
  have i0c : (w.alloc (gCs (.slice (some ⟨bA, oA, none⟩) l.length c) out)).cell? ⟨bU, oU, none⟩ = some (.int .i64 i0) := by have := hcU 0 _ rfl; simpa using this
  have hil : ((0 : Int) < ((i0 :: irest).length : Int)) := by simp
  obtain ⟨bn, hbn⟩ : ∃ bn, body.length = bn + 1 := ⟨body.length - 1, by omega⟩
  have u1 : ((body.length : Int) - 1) = (bn : Int) := by omega
  have u2 : IntKind.i64.wrap (bn : Int) = (bn : Int) := IntWalk.i64_in _ (by omega)
  have HBN := Lib.hid u1
  have HBL := Lib.hid (show BV.length ≤ 100 ∧ BO.length ≤ 100 from ⟨by omega, by omega⟩)
  generalize (i0 :: irest).length = il at *
  have hbl9 : (body.length : Int) ≤ 100 := by omega
  clear hv hv0 hlp hbl e0 e2 e3 e4 hu hbv hin hb1 hbg hbg2 hcU hbn
  go_enter Try.func30, Try.ntmps30
  go_upto_region 1 with fail
  obtain ⟨p, hp⟩ : ∃ p, p = w.heap.size := ⟨_, rfl⟩
  rw [← hp] at HB0 ⊢
  have HPS := Lib.hid hp
  clear hp
  generalize w.alloc (gCs (.slice (some ⟨bA, oA, none⟩) l.length c) out) = w0 at *
  have c0 : w0.cell? ⟨p, 0, none⟩ = some (.slice (some ⟨bA, oA, none⟩) l.length c) := HB0.out.cell 0
  have c1 : w0.cell? ⟨p, 1, none⟩ = some (.int .i64 out) := HB0.out.cell 1
  go_upto_region 2 with fail
  have HX1 := Lib.hid ((Ext.refl w0).alloc (.cells #[.int .i64 i0, .int .i64 (-1)] 26))
  have HI := Lib.hid (Blk.new w0 26 #[.int .i64 i0, .int .i64 (-1)])
  have HE5 := Lib.hid (HX1.out.cell e5)
  obtain ⟨pi, hpi⟩ : ∃ p, p = w0.heap.size := ⟨_, rfl⟩
  rw [← hpi] at HI ⊢
  clear hpi c0 c1 e1 e5 i0c
  generalize w0.alloc (.cells #[.int .i64 i0, .int .i64 (-1)] 26) = w1 at *
  have c0 : w1.cell? ⟨p, 0, none⟩ = some (.slice (some ⟨bA, oA, none⟩) l.length c) := (HB0.out.ext HX1.out).cell 0
  have c1 : w1.cell? ⟨p, 1, none⟩ = some (.int .i64 out) := (HB0.out.ext HX1.out).cell 1
  have e5 := HE5.out
  go_upto_region 3 with fail
  have HX2 := Lib.hid ((Ext.refl w1).alloc (.cells #[.int .i64 (lp : Int), .int .i64 (bn : Int)] 26))
  have HLA := Lib.hid (Blk.new w1 26 #[.int .i64 (lp : Int), .int .i64 (bn : Int)])
  obtain ⟨pl, hpl⟩ : ∃ p, p = w1.heap.size := ⟨_, rfl⟩
  rw [← hpl] at HLA ⊢
  clear hpl c0 c1 e5 HE5
  have HI2 := Lib.hid (HI.out.ext HX2.out)
  have HX02 := Lib.hid (HX0.out.trans (HX1.out.trans HX2.out))
  have HB2 := Lib.hid (HB0.out.ext (HX1.out.trans HX2.out))
  generalize w1.alloc (.cells #[.int .i64 (lp : Int), .int .i64 (bn : Int)] 26) = w2 at *
  have l0 : w2.cell? ⟨pl, 0, none⟩ = some (.int .i64 (lp : Int)) := HLA.out.cell 0
  have l1 : w2.cell? ⟨pl, 1, none⟩ = some (.int .i64 (bn : Int)) := HLA.out.cell 1
  have HO3 := Lib.hid (own_litA w2 ((((lp : Int), (bn : Int)), ((lp : Int), (-1 : Int))), (true, (0 : Int))))
  have HX3 := Lib.hid ((Ext.refl w2).alloc (.cells (encA.enc ((((lp : Int), (bn : Int)), ((lp : Int), (-1 : Int))), (true, (0 : Int)))).toArray 39))
  obtain ⟨LA, hLA⟩ : ∃ LA : Pl.Ar, LA = ((((lp : Int), (bn : Int)), ((lp : Int), (-1 : Int))), (true, (0 : Int))) := ⟨_, rfl⟩
  rw [← hLA] at HO3
  have HLAE := Lib.hid hLA
  clear hLA HB0 HI HX0 HX1 HX2
  have HPB3 := Lib.hid (show p < w2.heap.size ∧ pi < w2.heap.size ∧ pl < w2.heap.size from ⟨HB2.out.lt, HI2.out.lt, HLA.out.lt⟩)
  have HX23 := Lib.hid (HX02.out.trans HX3.out)
  have HI3 := Lib.hid (HI2.out.ext HX3.out)
  have HL3 := Lib.hid (HLA.out.ext HX3.out)
  have HB3 := Lib.hid (HB2.out.ext HX3.out)
  have hsame : w2.alloc (.cells (encA.enc (((((lp : Int), (bn : Int)), ((lp : Int), (-1 : Int))), (true, (0 : Int))) : Pl.Ar)).toArray 39) = w2.alloc (.cells #[.int .i64 (lp : Int), .int .i64 (bn : Int), .int .i64 (lp : Int), .int .i64 (-1), .bool true, .int .i64 0] 39) := rfl
  rw [← HLAE.out] at hsame
  have HSM := Lib.hid hsame
  clear hsame
  go_upto_region 4 with fail
  rw [← HLAE.out] at HX23 HI3 HL3 HB3 HX3
  rw [← HSM.out]
  have HZ2 := Lib.hid (show w.heap.size ≤ w2.heap.size from HX02.out.size)
  obtain ⟨b0, hb0⟩ : ∃ b0, b0 = w2.heap.size := ⟨_, rfl⟩
  rw [← hb0] at HO3 HZ2 HPB3 ⊢
  have HB3S := Lib.hid (show b0 < (w2.alloc (.cells (encA.enc LA).toArray 39)).heap.size from by rw [hb0]; simp)
  have HB0S := Lib.hid hb0
  clear HI2 HLA HB2 HX02 HSM l0 l1 hb0
  generalize w2.alloc (.cells (encA.enc LA).toArray 39) = w3 at *
  have c0 : w3.cell? ⟨p, 0, none⟩ = some (.slice (some ⟨bA, oA, none⟩) l.length c) := HB3.out.cell 0
  have c1 : w3.cell? ⟨p, 1, none⟩ = some (.int .i64 out) := HB3.out.cell 1
  go_wp2_with fail
  refine (HBG10.out w3 HX23.out).mono ?_
  rintro e w4 ⟨uv, rfl, huv, he4⟩
  obtain ⟨AV, cV, rfl⟩ := huv.re.form
  have HV4 := Lib.hid (show ∀ W, ExtQ (fun i => i = b0) w4 W → RE W (.slice AV BV.length cV) BV from fun W hW => (OE.extK huv hW (fun q hq e => by have h1 := (huv.own.lt q hq).1; have h2 := HB3S.out; omega)).re)
  have HX4 := Lib.hid (HX23.out.trans he4)
  have HI4 := Lib.hid (HI3.out.ext he4)
  have HL4 := Lib.hid (HL3.out.ext he4)
  have HB4 := Lib.hid (HB3.out.ext he4)
  have HO4 := Lib.hid (HO3.out.ext he4)
  have HZ4 := Lib.hid (show b0 < w4.heap.size from Nat.lt_of_lt_of_le HB3S.out he4.size)
  have HPB := Lib.hid (show p < b0 ∧ pi < b0 ∧ pl < b0 from HPB3.out)
  clear huv he4 c0 c1 HX23 HI3 HL3 HB3 HO3 HX3
  go_wp2
  go_loopw [7, 41] (fun o iv wr => ∃ k : Nat, k ≤ BV.length ∧ iv = .int .i64 (k : Int) ∧ OE 39 b0 wr o (LA :: (BV.take k).flatMap (Pl.varA lp i0 body.length)) ∧ ExtQ (fun i => i = b0) w4 wr ∧ (∀ q, o.ownBlock = some q → q = b0 ∨ w4.heap.size ≤ q)) (fun _ iv _ => BV.length - (intOf iv).toNat)
  case atStart => exact ⟨0, Nat.zero_le _, rfl, HO4.out, ExtQ.refl _ _, fun q hq => .inl (by injection hq with hq; exact hq.symm)⟩
  case round =>
    obtain ⟨k, hk, rfl, ho, hx, hob⟩ := hrel
    rename World => wr
    have HO := Lib.hid ho
    have HX := Lib.hid hx
    have HOB := Lib.hid hob
    obtain ⟨AO, cO, hvo⟩ := ho.re.form
    have hfl := Pl.flat_len lp i0 body.length (BV.take k)
    rw [List.length_take] at hfl
    have HFL := Lib.hid hfl
    have HIW := Lib.hid (HI4.out.extQ hx (fun e => by have := HPB.out; omega))
    have HLW := Lib.hid (HL4.out.extQ hx (fun e => by have := HPB.out; omega))
    have HBW := Lib.hid (HB4.out.extQ hx (fun e => by have := HPB.out; omega))
    have HVW := Lib.hid (HV4.out wr hx)
    clear ho hx hob hfl
    by_cases hlt : k < BV.length
    · have r1 : (k : Int) < (BV.length : Int) := by omega
      have HLT := Lib.hid hlt
      obtain ⟨bB, oB, hAV, hcV⟩ := RE.at_ HVW.out hlt
      have HTK := Lib.hid (Pl.flat_take (lp := lp) (i0 := i0) (n := body.length) hlt)
      generalize BV[k] = y at *
      obtain ⟨y1, y2⟩ := y
      obtain ⟨FK, hFK⟩ : ∃ FK : List Pl.Ar, FK = LA :: (BV.take k).flatMap (Pl.varA lp i0 body.length) := ⟨_, rfl⟩
      have HFK := Lib.hid (show FK.length ≤ 300 ∧ LA :: (BV.take (k + 1)).flatMap (Pl.varA lp i0 body.length) = FK ++ Pl.varA lp i0 body.length (y1, y2) from ⟨by rw [hFK, List.length_cons]; have h1 := HFL.out; have h3 := HBL.out; omega, by rw [HTK.out, hFK]; rfl⟩)
      rw [← hFK] at HO hvo
      clear hFK HTK HFL
      have k0 : wr.cell? ⟨bB, oB + k * 2, none⟩ = some (.int .i64 y1) := hcV 0 _ rfl
      have k1 : wr.cell? ⟨bB, oB + k * 2 + 1, none⟩ = some (.int .i64 y2) := hcV 1 _ rfl
      subst hAV
      subst hvo
      have HXN := Lib.hid ((Ext.refl wr).alloc (.cells #[.int .i64 y1, .int .i64 y2] 26))
      have HYN := Lib.hid (Blk.new wr 26 #[.int .i64 y1, .int .i64 y2])
      clear hcV hlt hk
      go_upto_region 7 with fail
      clear k0 k1
      obtain ⟨q, hq⟩ : ∃ q, q = wr.heap.size := ⟨_, rfl⟩
      rw [← hq] at HYN ⊢
      clear hq
      have HO1 := Lib.hid (HO.out.ext HXN.out)
      have HIN := Lib.hid (HIW.out.ext HXN.out)
      have HLN := Lib.hid (HLW.out.ext HXN.out)
      have HXE := Lib.hid HXN.out
      generalize wr.alloc (.cells #[.int .i64 y1, .int .i64 y2] 26) = w5 at *
      have a0 : w5.cell? ⟨pi, 0, none⟩ = some (.int .i64 i0) := HIN.out.cell 0
      have a1 : w5.cell? ⟨pi, 1, none⟩ = some (.int .i64 (-1)) := HIN.out.cell 1
      have b0' : w5.cell? ⟨pl, 0, none⟩ = some (.int .i64 (lp : Int)) := HLN.out.cell 0
      have b1' : w5.cell? ⟨pl, 1, none⟩ = some (.int .i64 (bn : Int)) := HLN.out.cell 1
      have d0 : w5.cell? ⟨q, 0, none⟩ = some (.int .i64 y1) := HYN.out.cell 0
      have d1 : w5.cell? ⟨q, 1, none⟩ = some (.int .i64 y2) := HYN.out.cell 1
      have HVA := Lib.hid (show Pl.varA lp i0 body.length (y1, y2) = [((((i0, (-1 : Int)), (y1, y2)), (true, (0 : Int))) : Pl.Ar), ((((lp : Int), (bn : Int)), (y1, y2)), (false, (1 : Int)))] from by unfold Pl.varA; rw [HBN.out])
      have HL1 := Lib.hid (RE.lit w5 #[.int .i64 i0, .int .i64 (-1), .int .i64 y1, .int .i64 y2, .bool true, .int .i64 0, .int .i64 (lp : Int), .int .i64 (bn : Int), .int .i64 y1, .int .i64 y2, .bool false, .int .i64 1] 39 2 [((((i0, (-1 : Int)), (y1, y2)), (true, (0 : Int))) : Pl.Ar), ((((lp : Int), (bn : Int)), (y1, y2)), (false, (1 : Int)))] rfl (by omega) rfl)
      have HXA := Lib.hid ((Ext.refl w5).alloc (.cells #[.int .i64 i0, .int .i64 (-1), .int .i64 y1, .int .i64 y2, .bool true, .int .i64 0, .int .i64 (lp : Int), .int .i64 (bn : Int), .int .i64 y1, .int .i64 y2, .bool false, .int .i64 1] 39))
      have HOL := Lib.hid (HO1.out.ext HXA.out)
      have HXB := Lib.hid (HXE.out.trans HXA.out)
      have hk9 : (k : Int) + 1 ≤ 1000 := by have h1 := HLT.out; have h2 := HBL.out; omega
      go_wp2_with (at_builtin; refine wpList_appEA rfl elemA _ _ _ rfl b0 _ _ FK [((((i0, (-1 : Int)), (y1, y2)), (true, (0 : Int))) : Pl.Ar), ((((lp : Int), (bn : Int)), (y1, y2)), (false, (1 : Int)))] rfl HOL.out rfl HL1.out (by have h1 := HFK.out.1; simp; omega) (by have h1 := HFK.out.1; unfold maxLen; simp; omega) (by have h1 := HZ4.out; have h2 := HX.out.size; have h3 := HXB.out.size; omega) ?_; intro v7 w7 ho7 hg7 hat7)
      obtain ⟨hx7, hob7⟩ := stepB HX.out HOB.out HXB.out hg7 hat7
      exact ⟨⟨k + 1, HLT.out, by go_num, by rw [HFK.out.2, HVA.out]; exact ho7, hx7, hob7⟩, by have := HLT.out; simp [intOf]; omega⟩
    · have r1 : ¬ (k : Int) < (BV.length : Int) := by omega
      obtain rfl : k = BV.length := by omega
      rw [List.take_length] at HO HFL
      obtain ⟨FL, hFL⟩ : ∃ FL, FL = BV.flatMap (Pl.varA lp i0 body.length) := ⟨_, rfl⟩
      rw [← hFL] at HO HRL
      have HFS := Lib.hid (show FL.length ≤ 200 from by rw [hFL, Pl.flat_len]; have := HBL.out; omega)
      rw [List.take_length, ← hFL] at hvo
      obtain ⟨FK, hFK⟩ : ∃ FK : List Pl.Ar, FK = LA :: FL := ⟨_, rfl⟩
      rw [← hFK] at HO hvo
      have HFK := Lib.hid (show FK.length ≤ 300 ∧ FK = LA :: FL from ⟨by rw [hFK, List.length_cons]; have := HFS.out; omega, hFK⟩)
      subst hvo
      clear hFL HFL hlt hk hFK
      have c0 : wr.cell? ⟨p, 0, none⟩ = some (.slice (some ⟨bA, oA, none⟩) l.length c) := HBW.out.cell 0
      have c1 : wr.cell? ⟨p, 1, none⟩ = some (.int .i64 out) := HBW.out.cell 1
      go_wp2_with fail
      refine (HBG11.out wr ((HX4.out.andQ HX.out (fun i hi => by have h1 := HPB.out; have h2 := HPS.out; have h3 := HZ2.out; omega)))).mono ?_
      rintro e w6 ⟨uo, rfl, huo, he6⟩
      obtain ⟨AU, cU, rfl⟩ := huo.re.form
      have HXW := Lib.hid (((HX4.out.andQ HX.out (fun i hi => by have h1 := HPB.out; have h2 := HPS.out; have h3 := HZ2.out; omega))).trans he6)
      have HV6 := Lib.hid (show ∀ W, ExtQ (fun i => i = b0 ∨ (Value.slice AO FK.length cO).ownBlock = some i) w6 W → RE W (.slice AU BO.length cU) BO from fun W hW => (OE.extK huo hW (fun q hq e => by
        have h1 := (huo.own.lt q hq).1
        rcases e with e | e
        · have h2 := HZ4.out; have h3 := HX.out.size; omega
        · have h2 := (HO.out.own.lt q e).2; omega)).re)
      have HO6 := Lib.hid (HO.out.ext he6)
      have HL6 := Lib.hid (HLW.out.ext he6)
      have HOW := Lib.hid (show ∀ q, (Value.slice AO FK.length cO).ownBlock = some q → (q = b0 ∨ w4.heap.size ≤ q) ∧ q < wr.heap.size from fun q hq => ⟨HOB.out q hq, (HO.out.own.lt q hq).2⟩)
      have HZ6 := Lib.hid (show wr.heap.size ≤ w6.heap.size ∧ w4.heap.size ≤ wr.heap.size from ⟨he6.size, HX.out.size⟩)
      clear huo he6 c0 c1 HVW HIW HLW HBW HO HX HX4
      obtain ⟨R0, hR0⟩ : ∃ R0 : Nat → Prop, R0 = fun i => i = b0 ∨ (Value.slice AO FK.length cO).ownBlock = some i := ⟨_, rfl⟩
      have HR0 := Lib.hid (show ∀ i, R0 i ↔ (i = b0 ∨ (Value.slice AO FK.length cO).ownBlock = some i) from fun i => by rw [hR0])
      rw [← hR0] at HV6
      clear hR0
      go_wp2
      go_loopw [7, 61] (fun o iv wx => ∃ k : Nat, k ≤ BO.length ∧ iv = .int .i64 (k : Int) ∧ OE 39 b0 wx o (FK ++ (BO.take k).map (Pl.outA lp body.length)) ∧ ExtQ R0 w6 wx ∧ (∀ q, o.ownBlock = some q → R0 q ∨ w6.heap.size ≤ q)) (fun _ iv _ => BO.length - (intOf iv).toNat)
      case atStart => exact ⟨0, Nat.zero_le _, rfl, by simpa using HO6.out, ExtQ.refl _ _, fun q hq => .inl ((HR0.out q).2 (.inr hq))⟩
      case round =>
        obtain ⟨k, hk, rfl, ho, hx, hob⟩ := hrel
        rename World => wx
        have HO := Lib.hid ho
        have HX := Lib.hid hx
        have HOB := Lib.hid hob
        obtain ⟨AX, cX, hvo⟩ := ho.re.form
        have HLW := Lib.hid (HL6.out.extQ hx (fun e => by
          have h1 := HPB.out
          rcases (HR0.out _).1 e with e | e
          · omega
          · have h2 := (HOW.out _ e).1; have h3 := HZ4.out; omega))
        have HVW := Lib.hid (HV6.out wx hx)
        clear ho hx hob
        by_cases hlt : k < BO.length
        · have r1 : (k : Int) < (BO.length : Int) := by omega
          have HLT := Lib.hid hlt
          obtain ⟨bB, oB, hAV, hcV⟩ := RE.at_ HVW.out hlt
          have HTK := Lib.hid (Pl.map_take (lp := lp) (n := body.length) hlt)
          generalize BO[k] = y at *
          obtain ⟨y1, y2⟩ := y
          obtain ⟨FM, hFM⟩ : ∃ FM : List Pl.Ar, FM = FK ++ (BO.take k).map (Pl.outA lp body.length) := ⟨_, rfl⟩
          have HFM := Lib.hid (show FM.length ≤ 400 ∧ FK ++ (BO.take (k + 1)).map (Pl.outA lp body.length) = FM ++ [Pl.outA lp body.length (y1, y2)] from ⟨by rw [hFM, List.length_append, List.length_map, List.length_take]; have h1 := HFK.out.1; have h3 := HBL.out; omega, by rw [HTK.out, hFM, List.append_assoc]⟩)
          rw [← hFM] at HO hvo
          clear hFM HTK
          have k0 : wx.cell? ⟨bB, oB + k * 2, none⟩ = some (.int .i64 y1) := hcV 0 _ rfl
          have k1 : wx.cell? ⟨bB, oB + k * 2 + 1, none⟩ = some (.int .i64 y2) := hcV 1 _ rfl
          subst hAV
          subst hvo
          have HXN := Lib.hid ((Ext.refl wx).alloc (.cells #[.int .i64 y1, .int .i64 y2] 26))
          have HYN := Lib.hid (Blk.new wx 26 #[.int .i64 y1, .int .i64 y2])
          clear hcV hlt hk
          go_upto_region 12 with fail
          clear k0 k1
          obtain ⟨q, hq⟩ : ∃ q, q = wx.heap.size := ⟨_, rfl⟩
          rw [← hq] at HYN ⊢
          clear hq
          have HO1 := Lib.hid (HO.out.ext HXN.out)
          have HLN := Lib.hid (HLW.out.ext HXN.out)
          have HXE := Lib.hid HXN.out
          generalize wx.alloc (.cells #[.int .i64 y1, .int .i64 y2] 26) = w5 at *
          have b0' : w5.cell? ⟨pl, 0, none⟩ = some (.int .i64 (lp : Int)) := HLN.out.cell 0
          have b1' : w5.cell? ⟨pl, 1, none⟩ = some (.int .i64 (bn : Int)) := HLN.out.cell 1
          have d0 : w5.cell? ⟨q, 0, none⟩ = some (.int .i64 y1) := HYN.out.cell 0
          have d1 : w5.cell? ⟨q, 1, none⟩ = some (.int .i64 y2) := HYN.out.cell 1
          have HVA := Lib.hid (show Pl.outA lp body.length (y1, y2) = ((((lp : Int), (bn : Int)), (y1, y2)), (false, (1 : Int))) from by unfold Pl.outA; rw [HBN.out])
          have HL1 := Lib.hid (RE.lit w5 #[.int .i64 (lp : Int), .int .i64 (bn : Int), .int .i64 y1, .int .i64 y2, .bool false, .int .i64 1] 39 1 [((((lp : Int), (bn : Int)), (y1, y2)), (false, (1 : Int)))] rfl (by omega) rfl)
          have HXA := Lib.hid ((Ext.refl w5).alloc (.cells #[.int .i64 (lp : Int), .int .i64 (bn : Int), .int .i64 y1, .int .i64 y2, .bool false, .int .i64 1] 39))
          have HOL := Lib.hid (HO1.out.ext HXA.out)
          have HXB := Lib.hid (HXE.out.trans HXA.out)
          have hk9 : (k : Int) + 1 ≤ 1000 := by have h1 := HLT.out; have h2 := HBL.out; omega
          go_wp2_with (at_builtin; refine wpList_appEA rfl elemA _ _ _ rfl b0 _ _ FM [((((lp : Int), (bn : Int)), (y1, y2)), (false, (1 : Int)))] rfl HOL.out rfl HL1.out (by have h1 := HFM.out.1; simp; omega) (by have h1 := HFM.out.1; unfold maxLen; simp; omega) (by have h1 := HZ4.out; have h2 := HX.out.size; have h3 := HXB.out.size; have h4 := HZ6.out; omega) ?_; intro v7 w7 ho7 hg7 hat7)
          obtain ⟨hx7, hob7⟩ := stepR HX.out HOB.out HXB.out hg7 hat7
          exact ⟨⟨k + 1, HLT.out, by go_num, by rw [HFM.out.2, HVA.out]; exact ho7, hx7, hob7⟩, by have := HLT.out; simp [intOf]; omega⟩
        · have r1 : ¬ (k : Int) < (BO.length : Int) := by omega
          obtain rfl : k = BO.length := by omega
          rw [List.take_length] at HO hvo
          obtain ⟨FM, hFM⟩ : ∃ FM : List Pl.Ar, FM = FK ++ BO.map (Pl.outA lp body.length) := ⟨_, rfl⟩
          rw [← hFM] at HO hvo
          have HRF := Lib.hid (show FM = RL from by rw [hFM, HRL.out, HFK.out.2, HLAE.out, List.cons_append, HBN.out])
          clear hFM
          have HF := Lib.hid (show OE 39 w.heap.size wx _ RL from by rw [← HRF.out]; exact OE.low HO.out HZ2.out)
          have HG := Lib.hid (show Ext w wx from by
            have h1 := HXW.out
            exact h1.andQ HX.out (fun i hi => by
              have h2 := HZ2.out
              rcases (HR0.out i).1 hi with e | e
              · omega
              · have h3 := (HOW.out _ e).1; have h4 := HZ4.out; omega))
          subst hvo
          clear hk hlt
          go_wp2
          go_ret
          exact ⟨_, rfl, HF.out, HG.out⟩
end Go.Proofs.Ytcacicgkebcdkaa
