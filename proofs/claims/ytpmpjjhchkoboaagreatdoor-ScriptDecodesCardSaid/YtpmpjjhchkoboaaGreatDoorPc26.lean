/-
  RecPut, RecEnc, ScrPut, packed: what the claim needs of them.
-/
import Derived.Test.YtpmpjjhchkoboaaGreatDoorPc23
import Derived.Test.YtpmpjjhchkoboaaGreatDoorPc11
import Derived.Test.YtpmpjjhchkoboaaGreatDoorPc24
import Derived.Test.YtpmpjjhchkoboaaGreatDoorPc25
import Derived.Test.YtpmpjjhchkoboaaGreatDoorPc08
import Derived.Test.YtpmpjjhchkoboaaGreatDoorPc03
import Derived.Test.YtpmpjjhchkoboaaGreatDoorPc17
import Derived.Test.YtpmpjjhchkoboaaGreatDoorPc22
import Derived.Test.YtpmpjjhchkoboaaGreatDoorPc19
open Go.Lib (hid)
set_option linter.unusedSimpArgs false
set_option linter.unusedVariables false
set_option maxRecDepth 100000
namespace Go.Proofs.YtpmpjjhchkoboaaGreatDoor
open Go.RowKit Go.Ox
attribute [local irreducible] OB RB
set_option maxHeartbeats 1000000 in
theorem mput_any (x y : Nat) (w : World) (hx : x < 1048576) (hy : y < 1048576) : Calls Tryz.prog 73 #[mV ((x : Int), (y : Int))] w fun e w' =>
 ∃ v, e = .returned (.tuple #[v, .int .i64 0]) ∧ OB 5 w.heap.size w' v (Num.put x ++ Num.put y) ∧ Ext w w' := by
 have HC := hid (fun w => check_any ((x : Int), (y : Int)) w)
 have hm : Rec.ok ((x : Int), (y : Int)) = true := by unfold Rec.ok; simp; omega
 rw [hm, if_pos rfl] at HC
 have B0 := Blk.new w 55 #[.int .i64 (x : Int), .int .i64 (y : Int)]
 have c0 : (w.alloc (.cells #[.int .i64 (x : Int), .int .i64 (y : Int)] 55)).cell? ⟨w.heap.size, 0, none⟩ = some (.int .i64 (x : Int)) := B0.cell 0
 have c1 : (w.alloc (.cells #[.int .i64 (x : Int), .int .i64 (y : Int)] 55)).cell? ⟨w.heap.size, 1, none⟩ = some (.int .i64 (y : Int)) := B0.cell 1
 have HB0 := hid B0
 clear B0 hm
 have hf : ((([Num.put x, Num.put y] : List (List UInt8)).flatten).length : Nat) ≤ 1099511627776 := by
  have h1 := Num.put_le x
  have h2 := Num.put_le y
  have h3 := (Num.width_le 8 x (by omega)).2 (by omega)
  have h4 := (Num.width_le 8 y (by omega)).2 (by omega)
  simp only [List.flatten_cons, List.flatten_nil, List.append_nil, List.length_append]; omega
 have HF := hid hf
 clear hf
 go_enter Tryz.func73, Tryz.ntmps73
 go_wp2_with fail
 refine (HC.out _).mono ?_
 rintro e w1 ⟨rfl, he1⟩
 have d0 := (HB0.out.ext he1).cell 0
 have d1 := (HB0.out.ext he1).cell 1
 have HB1 := hid (HB0.out.ext he1)
 have HX1 := hid (((Ext.refl w).alloc (.cells #[.int .i64 (x : Int), .int .i64 (y : Int)] 55)).trans he1)
 clear he1 c0 c1
 have d0 : w1.cell? ⟨w.heap.size, 0, none⟩ = some (.int .i64 (x : Int)) := d0
 go_wp2_with fail
 refine (put_any x _ (by omega)).mono ?_
 rintro e w2 ⟨v2, rfl, ho2, he2⟩
 have d1 : w2.cell? ⟨w.heap.size, 1, none⟩ = some (.int .i64 (y : Int)) := (HB1.out.ext he2).cell 1
 have HO2 := hid ho2
 have HX2 := hid he2
 obtain ⟨A2, k2, rfl⟩ := ho2.form
 clear ho2 he2 d0
 go_wp2_with fail
 refine (put_any y _ (by omega)).mono ?_
 rintro e w3 ⟨v3, rfl, ho3, he3⟩
 have HO3 := hid ho3
 have HX3 := hid he3
 obtain ⟨A3, k3, rfl⟩ := ho3.form
 clear ho3 he3 d1
 go_wp2_with fail
 refine (concat_any _ [Num.put x, Num.put y] _ (RBs.lit2 _ (HO2.out.ext HX3.out).rb HO3.out.rb) HF.out).mono ?_
 rintro e w4 ⟨v4, rfl, ho4, he4⟩
 obtain ⟨A4, k4, rfl⟩ := ho4.form
 go_wp2_with fail
 go_ret2
 have hx : Ext w w3 := (HX1.out.trans HX2.out).trans HX3.out
 refine ⟨_, rfl, ?_, (hx.alloc _).trans he4⟩
 have h9 := ho4.low ((hx.alloc _).size)
 rw [show [Num.put x, Num.put y].flatten = Num.put x ++ Num.put y by simp] at h9
 simpa using h9
end Go.Proofs.YtpmpjjhchkoboaaGreatDoor
namespace Go.Proofs.YtpmpjjhchkoboaaGreatDoor
open Go.RowKit Go.Ox
attribute [local irreducible] OB RB
end Go.Proofs.YtpmpjjhchkoboaaGreatDoor
namespace Go.Proofs.YtpmpjjhchkoboaaGreatDoor
open Go.RowKit Go.Ox Go.Shelf
attribute [local irreducible] OP RP OB RB
theorem mput_rec (r : Rec.R) (w : World) (h : Rec.ok r = true) : Calls Tryz.prog 73 #[mV r] w fun e w' => ∃ u, e = .returned (.tuple #[u, .int .i64 0]) ∧ OB 5 w.heap.size w' u (Rec.recL r) ∧ Ext w w' := by
 have hb := Rec.ok_bd h
 unfold Rec.recL
 obtain ⟨x, y⟩ := r
 obtain ⟨x, rfl⟩ : ∃ n : Nat, x = n := ⟨x.toNat, by simp only at hb; omega⟩
 obtain ⟨y, rfl⟩ : ∃ n : Nat, y = n := ⟨y.toNat, by simp only at hb; omega⟩
 simp only at hb
 refine (mput_any x y w (by omega) (by omega)).mono ?_
 rintro e w' ⟨v, rfl, ho, he⟩
 exact ⟨v, rfl, by simpa using ho, he⟩
set_option maxHeartbeats 2000000 in
theorem enc_ok (v : Value) (l : List Rec.R) (w : World) (hv : RP w v l) (hl : l.length ≤ 1000000) (hm : Rec.may l = 0) :
 Calls Tryz.prog 24 #[v] w fun e w' => ∃ u, e = .returned (.tuple #[u, .int .i64 0]) ∧ OB 5 w.heap.size w' u (Rec.encL l) ∧ Ext w w' := by
 have HS := hid (sort_ok v l w hv hl hm)
 obtain ⟨hok, hlm⟩ := Rec.may_ok hm
 have hsl := Rec.srt_len l
 have HOK := hid (Rec.srt_ok hok)
 have hp8 := Rec.put_le8 (n := l.length) (by omega)
 unfold Rec.encL
 rw [← hsl] at hp8 ⊢
 generalize Rec.srt l = S at *
 have HL := hid (show S.length ≤ 4096 by omega)
 have HPL := hid (show (Num.put S.length).length ≤ 4 from hp8.2)
 obtain ⟨A, c, rfl⟩ := hv.form
 have HP := hid (fun w => put_any S.length w (by have := HL.out; omega))
 clear hv hm hok hlm hl hp8 hsl
 generalize Num.put S.length = p at *
 go_enter Tryz.func24, Tryz.ntmps24
 go_wp2_with fail
 refine HS.out.mono ?_
 rintro e w1 ⟨v1, rfl, ho1, he1⟩
 have HO1 := hid ho1.rp
 have HX1 := hid he1
 obtain ⟨A1, c1, rfl⟩ := ho1.rp.form
 clear ho1 he1 HS
 go_wp2_with fail
 refine (HP.out _).mono ?_
 rintro e w2 ⟨v2, rfl, ho2, he2⟩
 have HO2 := hid ho2
 have HX2 := hid he2
 clear ho2 he2 HP
 go_wp2
 go_loopw [6, 28] (fun o iv wr => ∃ k : Nat, k ≤ S.length ∧ iv = .int .i64 (k : Int) ∧ OB 5 w1.heap.size wr o (p ++ (S.take k).flatMap Rec.recL) ∧ Ext w1 wr) (fun _ iv _ => S.length - (intOf iv).toNat)
 case atStart => exact ⟨0, Nat.zero_le _, rfl, by simpa using HO2.out, HX2.out⟩
 case round =>
  obtain ⟨k, hk, rfl, ho, hext⟩ := hrel
  have HE := hid hext
  have HO := hid ho
  obtain ⟨AO, cO, rfl⟩ := ho.form
  have HOUT := hid (show (p ++ (S.take k).flatMap Rec.recL).length ≤ 100000 by
   have h1 := Rec.flat_len (S.take k) fun x hx => HOK.out x (List.mem_of_mem_take hx)
   have h2 := HPL.out
   have h3 := HL.out
   rw [List.length_take] at h1
   rw [List.length_append]; omega)
  clear ho
  by_cases hlt : k < S.length
  · have g1 : (k : Int) < (S.length : Int) := by omega
    have g0 : 0 ≤ (k : Int) := by omega
    have HLT := hid hlt
    obtain ⟨bA, oA, rfl, c0, c1⟩ := (HO1.out.ext hext).at_ (k := k) hlt
    have HSN := hid (Rec.flatMap_snoc Rec.recL S hlt)
    have HRL := hid (Rec.recL_len (HOK.out _ (List.getElem_mem hlt)))
    have HM := hid (fun w => mput_rec S[k] w (HOK.out _ (List.getElem_mem hlt)))
    generalize hq : p ++ (S.take k).flatMap Rec.recL = q at *
    have HQ := hid hq
    generalize S[k] = x at *
    generalize Rec.recL x = xl at *
    obtain ⟨x1, x2⟩ := x
    dsimp only at *
    have hkb : k ≤ 1000000 := by have := HL.out; omega
    clear hext hk hlt hq
    go_upto_region 8 with fail
    have HG3 := hid ((Ext.refl wr).alloc (.cells #[.int .i64 x1, .int .i64 x2] 55))
    go_wp2_with fail
    refine (HM.out _).mono ?_
    rintro e w4 ⟨v4, rfl, ho4, he4⟩
    have HO4 := hid ho4.rb
    have HG4 := hid (HG3.out.trans he4)
    obtain ⟨A4, c4, rfl⟩ := ho4.form
    clear ho4 he4
    go_wp2_with (refine wpList_appBB rfl elemB w1 _ (.tmp 37) (.tmp 38) rfl _ q rfl (HO.out.ext HG4.out) (HE.out.trans HG4.out) _ xl rfl HO4.out (by have := HOUT.out; have := HRL.out; omega) ?_; intro v9 w9 ho9 he9 hg9; have HO9 := hid ho9; have HE9 := hid he9; clear ho9 he9 hg9)
    exact ⟨⟨k + 1, HLT.out, by go_num, by rw [HSN.out, ← List.append_assoc, HQ.out]; exact HO9.out, HE9.out⟩, by have := HLT.out; simp [intOf]; omega⟩
  · obtain rfl : k = S.length := by omega
    have g1 : ¬ (S.length : Int) < (S.length : Int) := by omega
    rw [List.take_length] at HO HOUT ⊢
    generalize hq : p ++ S.flatMap Rec.recL = q at *
    have HQ := hid hq
    clear hext hq
    go_wp2
    go_ret2
    rw [HQ.out]
    exact ⟨_, rfl, HO.out.low HX1.out.size, HX1.out.trans HE.out⟩
end Go.Proofs.YtpmpjjhchkoboaaGreatDoor
namespace Go.Proofs.YtpmpjjhchkoboaaGreatDoor
open Go.RowKit Go.Ox Go.Ox.Gr Go.Ox.Sc
structure WT (B p : Nat) (w : World) (bv : Value) (l : List UInt8) : Prop where
 blk : Blk w p 58 #[bv]
 ob : OB 5 B w bv l
 ne : bv.ownBlock ≠ some p
section
variable {B p : Nat} {w w' w2 : World} {bv bv' bv2 : Value} {l m : List UInt8}
theorem WT.ext (h : WT B p w bv l) (he : Ext w w') : WT B p w' bv l := ⟨h.blk.ext he, h.ob.ext he, h.ne⟩
theorem WT.put (h : WT B p w bv l) (ha : Appended w w' B 5 1 bv bv' l.length m.length (l.map byteV) (m.map byteV)) : WT B p (w'.setCell ⟨p, 0, none⟩ bv') bv' (l ++ m) ∧ WX p bv w bv' (w'.setCell ⟨p, 0, none⟩ bv') := by
 have hg : ExtQ (fun k => bv.ownBlock = some k) w w' := ExtQ.grown ha.grown fun k hk => hk
 have hne : bv'.ownBlock ≠ some p := by
  have hlt := h.blk.lt
  rcases ha.at_ with q | q
  · rw [q]; exact h.ne
  · rw [q]; intro e; injection e with e; omega
 have hb : Blk w' p 58 #[bv] := h.blk.extQ hg h.ne
 have hs : ExtQ (fun k => k = p) w' (w'.setCell ⟨p, 0, none⟩ bv') := ExtQ.setCell (Q := fun k => k = p) (ExtQ.refl _ _) (p := ⟨p, 0, none⟩) rfl bv'
 refine ⟨⟨hb.set_ 0 bv', ?_, hne⟩, (hg.mono fun k hk => .inr hk).trans (hs.mono fun k hk => .inl hk), fun k hk => ?_⟩
 · have h0 : OB 5 B w' bv' (l ++ m) := OB.app ha.own
   have h1 := ownsRow_extQ h0.own hs (fun k hk e => hne (by rw [hk, e]))
   exact h1
 · rcases ha.at_ with q | q
   · rw [q] at hk; exact .inl hk
   · rw [q] at hk; injection hk with hk; exact .inr (by omega)
end
theorem own_stabI {p : Nat} {bv v : Value} {w w' : World} {B C : Nat} {l : List UInt8} {ns : List Int} (h : WT B p w bv l) (hv : OE 3 C w' v ns) (hC : w.heap.size ≤ C) :
 ∀ W, ExtQ (fun k => k = p ∨ bv.ownBlock = some k) w' W → RE W v ns := fun W hW => by
 refine (OE.mk (ownsRow_extQ hv.own hW fun k hk q => ?_)).re
 have h1 := (hv.own.lt k hk).1
 have h2 := h.blk.lt
 rcases q with q | q
 · omega
 · have := (h.ob.own.lt k q).2; omega
theorem own_stabB {p : Nat} {bv v : Value} {w w' : World} {B C : Nat} {l m : List UInt8} (h : WT B p w bv l) (hv : OB 5 C w' v m) (hC : w.heap.size ≤ C) :
 ∀ W, ExtQ (fun k => k = p ∨ bv.ownBlock = some k) w' W → RB W v m := fun W hW => by
 have h0 : OB 5 C W v m := ownsRow_extQ hv.own hW fun k hk q => by
  have h1 := (hv.own.lt k hk).1
  have h2 := h.blk.lt
  rcases q with q | q
  · omega
  · have := (h.ob.own.lt k q).2; omega
 exact h0.rb
attribute [local irreducible] RE OE OB RB NodesR EpR InsR ActsR RP
set_option maxHeartbeats 4000000 in
theorem snumbers_any (B p : Nat) (bv v : Value) (l : List UInt8) (ns : List Int) (w : World) (hw : WT B p w bv l) (hB : B ≤ w.heap.size) (hst : ∀ W, ExtQ (fun k => k = p ∨ bv.ownBlock = some k) w W → RE W v ns) (hl : ns.length ≤ 1000) (hn : ∀ x ∈ ns, okI x) (hll : l.length ≤ 100000000) :
 Calls Tryz.prog 20 #[.pointer (some ⟨p, 0, none⟩), v] w fun e w' => e = .returned (.tuple #[]) ∧ ∃ bv', WT B p w' bv' (l ++ numsL ns) ∧ WX p bv w bv' w' := by
 obtain ⟨A, c, rfl⟩ := (hst w (ExtQ.refl _ _)).form
 have HW := hid hw
 have HST := hid hst
 have HL := hid hl
 have HN := hid (fun (k : Nat) (h : k < ns.length) => hn ns[k] (List.getElem_mem h))
 have HLL := hid (show ∀ k, (l ++ numsL (ns.take k)).length ≤ 100010000 from fun k => by
  have h1 := numsL_len (ns.take k) fun x hx => hn x (List.mem_of_mem_take hx)
  rw [List.length_append]; rw [List.length_take] at h1; omega)
 have HB := hid hB
 clear hw hst hl hn hll hB
 go_enter Tryz.func20, Tryz.ntmps20
 go_wp2
 go_loopw [10] (fun iv wr => ∃ k : Nat, k ≤ ns.length ∧ iv = .int .i64 (k : Int) ∧ ∃ bv', WT B p wr bv' (l ++ numsL (ns.take k)) ∧ WX p bv w bv' wr) (fun iv _ => ns.length - (intOf iv).toNat)
 case atStart => exact ⟨0, Nat.zero_le _, rfl, bv, by rw [show numsL (ns.take 0) = [] from rfl, List.append_nil]; exact HW.out, WX.refl _ _ _⟩
 case round =>
  obtain ⟨k, hk, rfl, b2, hws, hwx⟩ := hrel
  have HWS := hid hws
  have HWX := hid hwx
  have hk1000 : k ≤ 1000 := by have := HL.out; omega
  by_cases hlt : k < ns.length
  · have q1 : (k : Int) < (ns.length : Int) := by omega
    have q0 : 0 ≤ (k : Int) := by omega
    have q1n : k < ns.length := hlt
    have HLT := hid hlt
    obtain ⟨bI, oI, rfl, z0⟩ := ri1 (HST.out wr hwx.x) hlt
    have HS := hid (numsL_s ns hlt)
    have HK := hid (HN.out k hlt)
    have HLK := hid (HLL.out k)
    generalize ns[k] = x at *
    obtain ⟨y, hy⟩ : ∃ y : Nat, x = (y : Int) := ⟨x.toNat, by have := HK.out.1; omega⟩
    subst hy
    rw [show ((y : Int)).toNat = y from rfl] at HS
    have hy63 : y < 9223372036854775808 := by have := HK.out.2; omega
    have HY := hid hy63
    replace HS := hid (show l ++ numsL (ns.take (k + 1)) = (l ++ numsL (ns.take k)) ++ Num.put y by rw [HS.out, List.append_assoc])
    generalize l ++ numsL (ns.take k) = lk at *
    clear hws hwx hlt hk hy63
    go_wp2_with fail
    refine (put_any y _ HY.out).mono ?_
    rintro e w1 ⟨v1, rfl, ho1, he1⟩
    have HO1 := hid ho1
    have HW1 := hid (HWS.out.ext he1)
    have HX1 := hid (HWX.out.ext he1)
    obtain ⟨A1, c1, rfl⟩ := ho1.form
    obtain ⟨A2, c2, rfl⟩ := HWS.out.ob.form
    clear ho1 he1 z0
    have c0 : w1.cell? ⟨p, 0, none⟩ = some (.slice A2 lk.length c2) := HW1.out.blk.cell 0
    go_wp2_with (at_builtin; refine wpList_app rfl elemB _ _ _ rfl B _ lk.length (lk.map byteV) rfl HW1.out.ob.own _ (Num.put y).length ((Num.put y).map byteV) rfl HO1.out.rb.rd (one_byteV _) (by have := HLK.out; have := put_le9 HY.out; omega) (by have := HLK.out; have := put_le9 HY.out; unfold maxLen; omega) (Nat.le_trans HB.out HX1.out.x.size) ?_; intro v9 w9 ha9; have HP9 := hid (HW1.out.put ha9); obtain ⟨A9, n9, c9, rfl⟩ : ∃ A n c, v9 = .slice A n c := (by obtain ⟨A, c, h⟩ := HP9.out.1.ob.form; exact ⟨A, _, c, h⟩); have z9 : w9.cell? ⟨p, 0, none⟩ = some (.slice A2 lk.length c2) := (HW1.out.blk.extQ (ExtQ.grown (Q := fun k => (Value.slice A2 lk.length c2).ownBlock = some k) ha9.grown fun k hk => hk) HW1.out.ne).cell 0; have f9 : w9.frozen? ⟨p, 0, none⟩ = false := (HW1.out.blk.extQ (ExtQ.grown (Q := fun k => (Value.slice A2 lk.length c2).ownBlock = some k) ha9.grown fun k hk => hk) HW1.out.ne).frozen 0; clear ha9)
    exact ⟨⟨k + 1, HLT.out, by go_num, _, by rw [HS.out]; exact HP9.out.1, HX1.out.trans HP9.out.2⟩, by have := HLT.out; simp [intOf]; omega⟩
  · obtain rfl : k = ns.length := by omega
    have q1 : ¬ (ns.length : Int) < (ns.length : Int) := by omega
    rw [List.take_length] at HWS
    clear hws hwx hk hlt
    go_wp2
    go_end0
    exact ⟨rfl, _, HWS.out, HWX.out⟩
theorem slit_stab {p : Nat} {bv : Value} {w : World} {B : Nat} {l : List UInt8} {cs : Array Value} {ns : List Int} (h : WT B p w bv l) (hcs : cs.toList = ns.flatMap fun (x : Int) => [Value.int .i64 x]) (hm : ns.length ≤ 1000) :
 ∀ W, ExtQ (fun k => k = p ∨ bv.ownBlock = some k) (w.alloc (.cells cs 3)) W → RE W (.slice (some ⟨w.heap.size, 0, none⟩) ns.length ns.length) ns := fun W hW => by
 have hs : cs.size = ns.length := by
  have := congrArg List.length hcs
  rw [Array.length_toList] at this
  rw [this]
  clear this hcs hm
  induction ns with
  | nil => rfl
  | cons x l ih => rw [List.flatMap_cons, List.length_append, ih, List.length_cons]; simp; omega
 have h0 : OE 3 w.heap.size (w.alloc (.cells cs 3)) (.slice (some ⟨w.heap.size, 0, none⟩) ns.length ns.length) ns := by
  have := World.ownsRow_lit (base := w.heap.size) (e := 3) (size := 1) w cs ns.length (Nat.le_refl _) (by unfold maxLen; omega) (by rw [hs]; omega)
  rw [hcs] at this
  exact OE.mk this
 refine (OE.mk (ownsRow_extQ h0.own hW fun k hk q => ?_)).re
 have h1 := (h0.lt hk).1
 have h2 := h.blk.lt
 rcases q with q | q
 · omega
 · have := (h.ob.own.lt k q).2; omega
set_option maxHeartbeats 4000000 in
theorem spart_any (B p : Nat) (bv v : Value) (l b : List UInt8) (er : Int) (w : World) (hw : WT B p w bv l) (hB : B ≤ w.heap.size) (hst : ∀ W, ExtQ (fun k => k = p ∨ bv.ownBlock = some k) w W → RB W v b) (hl : b.length ≤ 1000000) (hll : l.length ≤ 90000000) :
 Calls Tryz.prog 22 #[.pointer (some ⟨p, 0, none⟩), v, .int .i64 er] w fun e w' => e = .returned (.tuple #[]) ∧ ∃ bv', WT B p w' bv' (l ++ partL b) ∧ WX p bv w bv' w' := by
 obtain ⟨A, c, rfl⟩ := (hst w (ExtQ.refl _ _)).form
 have hal := (Ext.refl w).alloc (.cells #[.int .i64 (b.length : Int)] 3)
 have HW := hid (hw.ext hal)
 have HST := hid hst
 have HX := hid (WX.of (p := p) (bv := bv) hal)
 have HBW := hid (Nat.le_trans hB hal.size)
 have HB0 := hid hB
 have HS0 := hid (slit_stab (cs := #[.int .i64 (b.length : Int)]) (ns := [(b.length : Int)]) hw rfl (by simp))
 have HNB := hid (fun h1 h2 h3 => snumbers_any B p bv (.slice (some ⟨w.heap.size, 0, none⟩) 1 1) l [(b.length : Int)] (w.alloc (.cells #[.int .i64 (b.length : Int)] 3)) h1 h2 h3 (by simp) (by intro x hx; simp at hx; subst hx; unfold okI; omega) (by omega))
 rw [show l ++ numsL [(b.length : Int)] = l ++ Num.put b.length by unfold numsL; simp] at HNB
 have HLL := hid (show (l ++ Num.put b.length).length ≤ 90000009 from by have := put_le9 (n := b.length) (by omega); rw [List.length_append]; omega)
 have HL := hid hl
 rw [show l ++ partL b = (l ++ Num.put b.length) ++ b by unfold partL; rw [List.append_assoc]]
 generalize l ++ Num.put b.length = lk at *
 clear hw hB hst hl hll hal
 go_enter Tryz.func22, Tryz.ntmps22
 go_wp2_with fail
 refine (HNB.out HW.out HBW.out HS0.out).mono ?_
 rintro e w1 ⟨rfl, b1, hw1, hx1⟩
 have HW1 := hid hw1
 have HX1 := hid (HX.out.trans hx1)
 have HR1 := hid (HST.out w1 (HX.out.trans hx1).x)
 obtain ⟨A2, c2, rfl⟩ := hw1.ob.form
 clear hw1 hx1
 have c0 : w1.cell? ⟨p, 0, none⟩ = some (.slice A2 lk.length c2) := HW1.out.blk.cell 0
 go_wp2_with (at_builtin; refine wpList_app rfl elemB _ _ _ rfl B _ lk.length (lk.map byteV) rfl HW1.out.ob.own _ b.length (b.map byteV) rfl HR1.out.rd (one_byteV _) (by have := HLL.out; have := HL.out; omega) (by have := HLL.out; have := HL.out; unfold maxLen; omega) (Nat.le_trans HB0.out HX1.out.x.size) ?_; intro v9 w9 ha9; have HP9 := hid (HW1.out.put ha9); obtain ⟨A9, n9, c9, rfl⟩ : ∃ A n c, v9 = .slice A n c := (by obtain ⟨A, c, h⟩ := HP9.out.1.ob.form; exact ⟨A, _, c, h⟩); have z9 : w9.cell? ⟨p, 0, none⟩ = some (.slice A2 lk.length c2) := (HW1.out.blk.extQ (ExtQ.grown (Q := fun k => (Value.slice A2 lk.length c2).ownBlock = some k) ha9.grown fun k hk => hk) HW1.out.ne).cell 0; have f9 : w9.frozen? ⟨p, 0, none⟩ = false := (HW1.out.blk.extQ (ExtQ.grown (Q := fun k => (Value.slice A2 lk.length c2).ownBlock = some k) ha9.grown fun k hk => hk) HW1.out.ne).frozen 0; clear ha9)
 go_end0
 exact ⟨rfl, _, HP9.out.1, HX1.out.trans HP9.out.2⟩
end Go.Proofs.YtpmpjjhchkoboaaGreatDoor
