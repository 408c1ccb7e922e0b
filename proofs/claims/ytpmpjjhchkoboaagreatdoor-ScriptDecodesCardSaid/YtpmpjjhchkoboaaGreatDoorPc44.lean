/-
  ScrDecR, packed: what the claim needs of them.
-/
import Derived.Test.YtpmpjjhchkoboaaGreatDoorPc42
import Derived.Test.YtpmpjjhchkoboaaGreatDoorPc43
import Derived.Test.YtpmpjjhchkoboaaGreatDoorPc29
import Derived.Test.YtpmpjjhchkoboaaGreatDoorPc40
open Go.Lib (hid)
set_option linter.unusedSimpArgs false
set_option linter.unusedVariables false
set_option maxRecDepth 100000
namespace Go.Proofs.YtpmpjjhchkoboaaGreatDoor
open Go.RowKit Go.Ox Go.Ox.Gr Go.Ox.Sc
structure DA (K : Nat → Prop) (B r g : Nat) (w0 w : World) (s : Num.St) : Prop where
 br : Bx8 w r 30 (.int .i64 0) (.int .i64 0) (.int .i64 0) (.int .i64 0) (.slice none 0 0) (.int .i64 0) (.slice none 0 0) (.slice none 0 0)
 rd : RRd K B g w s
 ex : Ext w0 w
 er : w0.heap.size = r
 rg : r < g
 gb : g < B
structure DB (K : Nat → Prop) (B r g o : Nat) (w0 w : World) (s : Num.St) (k0 k1 k2 k3 : Int) (nv : Value) (out : Int) (iv av : Value) : Prop where
 a : DA K B r g w0 w s
 bo : Bx8 w o 30 (.int .i64 k0) (.int .i64 k1) (.int .i64 k2) (.int .i64 k3) nv (.int .i64 out) iv av
 bl : B ≤ o
section
variable {K : Nat → Prop} {B r g o : Nat} {w0 w w' wz : World} {s s' : Num.St} {k0 k1 k2 k3 out : Int} {nv iv av : Value} {Q : Nat → Prop}
theorem DA.extQ (h : DA K B r g w0 w s) (he : ExtQ (fun k => B ≤ k) w w') : DA K B r g w0 w' s :=
 ⟨h.br.extQ he (fun (e : B ≤ r) => by have := h.rg; have := h.gb; omega), h.rd.extQ he, h.ex.andQ he (fun k (hk : B ≤ k) => by have := h.rg; have := h.gb; have := h.er; omega), h.er, h.rg, h.gb⟩
theorem DA.ext (h : DA K B r g w0 w s) (he : Ext w w') : DA K B r g w0 w' s := h.extQ (ExtQ.of he)
theorem DA.num (h : DA K B r g w0 w s) (hr : RR K w' g s') (he : ExtG g w w') : DA K B r g w0 w' s' :=
 have hx : ExtQ (fun k => k = g) w w' := ExtQ.extG he rfl
 ⟨h.br.extQ hx (fun (e : r = g) => by have := h.rg; omega), h.rd.num hr, h.ex.andQ hx (fun k (hk : k = g) => by have := h.rg; have := h.er; omega), h.er, h.rg, h.gb⟩
theorem DB.extQ (h : DB K B r g o w0 w s k0 k1 k2 k3 nv out iv av) (he : ExtQ (fun k => o < k) w w') : DB K B r g o w0 w' s k0 k1 k2 k3 nv out iv av :=
 ⟨h.a.extQ (he.mono fun k (hk : o < k) => show B ≤ k by have := h.bl; omega), h.bo.extQ he (fun (e : o < o) => by omega), h.bl⟩
theorem DB.ext (h : DB K B r g o w0 w s k0 k1 k2 k3 nv out iv av) (he : Ext w w') : DB K B r g o w0 w' s k0 k1 k2 k3 nv out iv av := h.extQ (ExtQ.of he)
theorem DB.num (h : DB K B r g o w0 w s k0 k1 k2 k3 nv out iv av) (hr : RR K w' g s') (he : ExtG g w w') : DB K B r g o w0 w' s' k0 k1 k2 k3 nv out iv av :=
 ⟨h.a.num hr he, h.bo.extQ (ExtQ.extG (Q := fun k => k = g) he rfl) (fun (e : o = g) => by have := h.bl; have := h.a.gb; omega), h.bl⟩
theorem DB.setq (h : DB K B r g o w0 w s k0 k1 k2 k3 nv out iv av) (he : ExtQ (fun k => k = o) w w') : DA K B r g w0 w' s := h.a.extQ (he.mono fun k (hk : k = o) => show B ≤ k by have := h.bl; omega)
theorem DB.set45 (h : DB K B r g o w0 w s k0 k1 k2 k3 nv out iv av) (v : Value) (u : Int) : DB K B r g o w0 ((w.setCell ⟨o, 4, none⟩ v).setCell ⟨o, 5, none⟩ (.int .i64 u)) s k0 k1 k2 k3 v u iv av :=
 ⟨h.setq (ExtQ.setCell (Q := fun k => k = o) (ExtQ.setCell (Q := fun k => k = o) (ExtQ.refl _ _) (p := ⟨o, 4, none⟩) rfl _) (p := ⟨o, 5, none⟩) rfl _), h.bo.set_45 v (.int .i64 u), h.bl⟩
theorem DB.set6 (h : DB K B r g o w0 w s k0 k1 k2 k3 nv out iv av) (v : Value) : DB K B r g o w0 (w.setCell ⟨o, 6, none⟩ v) s k0 k1 k2 k3 nv out v av :=
 ⟨h.setq (ExtQ.setCell (Q := fun k => k = o) (ExtQ.refl _ _) (p := ⟨o, 6, none⟩) rfl _), ⟨by simpa using h.bo.b.set_ 6 v⟩, h.bl⟩
theorem DB.set7 (h : DB K B r g o w0 w s k0 k1 k2 k3 nv out iv av) (v : Value) : DB K B r g o w0 (w.setCell ⟨o, 7, none⟩ v) s k0 k1 k2 k3 nv out iv v :=
 ⟨h.setq (ExtQ.setCell (Q := fun k => k = o) (ExtQ.refl _ _) (p := ⟨o, 7, none⟩) rfl _), ⟨by simpa using h.bo.b.set_ 7 v⟩, h.bl⟩
theorem DB.step (h : DB K B r g o w0 w s k0 k1 k2 k3 nv out iv av) (he : ExtQ (fun k => k = g ∨ o < k) w w') (hr : RRd K B g w' s') : DB K B r g o w0 w' s' k0 k1 k2 k3 nv out iv av :=
 have h1 := h.a.rg
 have h2 := h.a.gb
 have h3 := h.bl
 have h4 := h.a.er
 ⟨⟨h.a.br.extQ he (fun e => by rcases e with e | e <;> omega), hr, h.a.ex.andQ he (fun k hk => by rcases hk with e | e <;> omega), h.a.er, h.a.rg, h.a.gb⟩, h.bo.extQ he (fun e => by rcases e with e | e <;> omega), h.bl⟩
theorem setO (w : World) (o i : Nat) (v : Value) : ExtQ (fun k => k = o) w (w.setCell ⟨o, i, none⟩ v) := ExtQ.setCell (Q := fun k => k = o) (ExtQ.refl _ _) (p := ⟨o, i, none⟩) rfl _
theorem DA.fin (h : DA K B r g w0 w s) (v0 v1 v2 v3 v4 v5 v6 v7 : Value) :
 Bx8 ((((((((w.setCell ⟨r, 0, none⟩ v0).setCell ⟨r, 1, none⟩ v1).setCell ⟨r, 2, none⟩ v2).setCell ⟨r, 3, none⟩ v3).setCell ⟨r, 4, none⟩ v4).setCell ⟨r, 5, none⟩ v5).setCell ⟨r, 6, none⟩ v6).setCell ⟨r, 7, none⟩ v7) r 30 v0 v1 v2 v3 v4 v5 v6 v7 ∧ Ext w0 ((((((((w.setCell ⟨r, 0, none⟩ v0).setCell ⟨r, 1, none⟩ v1).setCell ⟨r, 2, none⟩ v2).setCell ⟨r, 3, none⟩ v3).setCell ⟨r, 4, none⟩ v4).setCell ⟨r, 5, none⟩ v5).setCell ⟨r, 6, none⟩ v6).setCell ⟨r, 7, none⟩ v7) ∧ ExtQ (fun k => k = r) w ((((((((w.setCell ⟨r, 0, none⟩ v0).setCell ⟨r, 1, none⟩ v1).setCell ⟨r, 2, none⟩ v2).setCell ⟨r, 3, none⟩ v3).setCell ⟨r, 4, none⟩ v4).setCell ⟨r, 5, none⟩ v5).setCell ⟨r, 6, none⟩ v6).setCell ⟨r, 7, none⟩ v7) :=
 ⟨h.br.set8, h.ex.andQ (extQ_set8 w r) (fun k (hk : k = r) => by have := h.er; omega), extQ_set8 w r⟩
theorem up (h : ExtQ (fun k => k ≤ o) wz w) (he : ExtQ Q w w') (hq : ∀ k, Q k → k ≤ o ∨ wz.heap.size ≤ k) : ExtQ (fun k => k ≤ o) wz w' :=
 ((h.mono (Q' := fun k => k ≤ o ∨ wz.heap.size ≤ k) fun k hk => .inl hk).trans (he.mono hq)).mono' fun k hk hq => hq.elim id fun e => by omega
theorem scZ_nil (w : World) : ScR 2 w (.slice none 0 0) (.slice none 0 0) (.slice none 0 0) scZ := ⟨NodesR.nil _ _, InsR.nil _, ActsR.nil _⟩
end
def SmE (l : List (List Bag)) : Prop := ∀ x ∈ l, x.length ≤ 4 ∧ ∀ b ∈ x, b.length ≤ 4096
theorem SmE.snoc {l : List (List Bag)} {x : List Bag} (h : SmE l) (h1 : x.length ≤ 4) (h2 : ∀ b ∈ x, b.length ≤ 4096) : SmE (l ++ [x]) := fun y hy => by
 rcases List.mem_append.1 hy with hy | hy
 · exact h y hy
 · obtain rfl := List.mem_singleton.1 hy; exact ⟨h1, h2⟩
def SmA (l : List Sc.Act) : Prop := ∀ x ∈ l, x.2.length ≤ 256
theorem SmA.snoc {l : List Sc.Act} {x : Sc.Act} (h : SmA l) (h1 : x.2.length ≤ 256) : SmA (l ++ [x]) := fun y hy => by
 rcases List.mem_append.1 hy with hy | hy
 · exact h y hy
 · obtain rfl := List.mem_singleton.1 hy; exact h1
attribute [local irreducible] RE OE OB RB NodesR EpR InsR ActsR RP OP
set_option maxHeartbeats 16000000 in
theorem rDecode26_any (v : Value) (b : List UInt8) (w : World) (hv : RB w v b) (hl : b.length ≤ 1000000) :
 Calls Tryz.prog 15 #[v] w fun e w' => ∃ nv iv av, e = .returned (.tuple #[scAg (rres (decR b)) nv iv av, .bool (decR b).isSome]) ∧ ScR 2 w' nv iv av (rres (decR b)) ∧ Ext w w' := by
 have HX0 := hid ((Ext.refl w).alloc (scCs (.int .i64 0) (.int .i64 0) (.int .i64 0) (.int .i64 0) (.slice none 0 0) 0 (.slice none 0 0) (.slice none 0 0)))
 have HRS0 := hid (Bx8.new w 30 (.int .i64 0) (.int .i64 0) (.int .i64 0) (.int .i64 0) (.slice none 0 0) (.int .i64 0) (.slice none 0 0) (.slice none 0 0))
 have HD := decR_eq b
 generalize decR b = RES at *
 have hpt : ∀ s, partR s = Num.bytesP ((Num.numP s).2 : Int) (Num.numP s).1 := fun _ => rfl
 rw [hpt] at HD
 clear hpt
 have HN1 := hid (fun (K : Nat → Prop) g w (h : RR K w g ⟨b, false⟩) => rnum_any g ⟨b, false⟩ w h hl)
 have hl1 := Num.numP_len ⟨b, false⟩
 generalize Num.numP ⟨b, false⟩ = t at *
 obtain ⟨s1, n1⟩ := t
 dsimp only at *
 have HN2 := hid (fun (K : Nat → Prop) g w (h : RR K w g s1) => rnum_any g s1 w h (by omega))
 have hl2 := Num.numP_len s1
 generalize Num.numP s1 = t at *
 obtain ⟨s2, n2⟩ := t
 dsimp only at *
 have HN3 := hid (fun (K : Nat → Prop) g w (h : RR K w g s2) => rnum_any g s2 w h (by omega))
 have hl3 := Num.numP_len s2
 generalize Num.numP s2 = t at *
 obtain ⟨s3, n3⟩ := t
 dsimp only at *
 have HN4 := hid (fun (K : Nat → Prop) g w (h : RR K w g s3) => rnum_any g s3 w h (by omega))
 have hl4 := Num.numP_len s3
 generalize Num.numP s3 = t at *
 obtain ⟨s4, n4⟩ := t
 dsimp only at *
 have HN5 := hid (fun (K : Nat → Prop) g w (h : RR K w g s4) => rnum_any g s4 w h (by omega))
 have hl5 := Num.numP_len s4
 generalize Num.numP s4 = t at *
 obtain ⟨s5, n5⟩ := t
 dsimp only at *
 have HBY := hid (fun (K : Nat → Prop) g w (h : RR K w g s5) => rbytes_any g (n5 : Int) s5 w h (by omega))
 have hl6 := Num.bytesP_len (n5 : Int) s5
 have hl7 := bytesP_short n5 s5
 generalize Num.bytesP (n5 : Int) s5 = t at *
 obtain ⟨s6, bs⟩ := t
 dsimp only at *
 have HGG := hid (fun v w h => rGetS_any v bs w h (by omega))
 generalize gres (getR bs) = gg at *
 generalize (getR bs).2 = gok at *
 obtain ⟨gl, gout⟩ := gg
 obtain ⟨KK, hkk⟩ : ∃ KK, KK = k1 ((n1 : Int), (n2 : Int), (n3 : Int), (n4 : Int)) (gl, gout) := ⟨_, rfl⟩
 rw [← hkk] at HD
 have HKK := hid (show ∀ I : Num.St × List (List Bag), KK I = (forR actR (countR 256 I.1).2 (countR 256 I.1).1).bind (k2 ((n1 : Int), (n2 : Int), (n3 : Int), (n4 : Int)) (gl, gout) I.2) from fun I => by rw [hkk]; rfl)
 clear hkk
 rw [show rowR 16 epR s6 = forR epR (countR 16 s6).2 (countR 16 s6).1 from rfl] at HD
 have HC16 := hid (fun (K : Nat → Prop) g w (h : RR K w g s6) => rcount_sc K g 16 s6 w h (by omega))
 have hl8 := countR_len 16 s6
 have hn16 := countR_le (most := 16) (by omega) s6
 generalize countR 16 s6 = t at *
 obtain ⟨s7, n⟩ := t
 dsimp only at *
 have HLN := hid (show s7.l.length ≤ 1000000 ∧ n ≤ 16 from ⟨by omega, by omega⟩)
 have HL := hid hl
 have HDD := hid HD
 obtain ⟨A, c, rfl⟩ := RB.form hv
 have HE0 := hid ((Ext.refl (w.alloc (scCs (.int .i64 0) (.int .i64 0) (.int .i64 0) (.int .i64 0) (.slice none 0 0) 0 (.slice none 0 0) (.slice none 0 0)))).alloc (.cells #[] 5))
 have HV := hid ((hv.ext HX0.out).ext HE0.out)
 have HOL := hid (OB.emptyL (w.alloc (scCs (.int .i64 0) (.int .i64 0) (.int .i64 0) (.int .i64 0) (.slice none 0 0) 0 (.slice none 0 0) (.slice none 0 0))) 5)
 clear hv hl HD hl1 hl2 hl3 hl4 hl5 hl6 hl7 hl8 hn16
 go_enter Tryz.func15, Tryz.ntmps15
 go_upto_region 1 with fail
 obtain ⟨r, hr⟩ : ∃ r, r = w.heap.size := ⟨_, rfl⟩
 rw [← hr] at HRS0 ⊢
 have HR := hid hr
 clear hr
 generalize w.alloc (scCs (.int .i64 0) (.int .i64 0) (.int .i64 0) (.int .i64 0) (.slice none 0 0) 0 (.slice none 0 0) (.slice none 0 0)) = w0 at *
 go_wp2_with (at_builtin; refine wpList_appBB rfl elemB w0 _ (.tmp 19) (.tmp 20) rfl _ [] rfl HOL.out HE0.out _ b rfl HV.out (by have := HL.out; simp; omega) ?_; intro v7 w7 ho7 he7 hg7; rw [List.nil_append] at ho7; obtain ⟨A7, c7, rfl⟩ := ho7.form; have HO7 := hid ho7; have HE7 := hid he7; clear ho7 he7 hg7; obtain ⟨g, hg⟩ : ∃ g, w7.heap.size = g := ⟨_, rfl⟩)
 go_upto_region 2 with fail
 have hr1 : RR (fun j => j < w7.heap.size) (w7.alloc (.cells #[.slice A7 b.length c7, .bool false] 100)) w7.heap.size ⟨b, false⟩ := Rdr.new (RB.ext HO7.out.rb (Ext.refl _)) _ _
 have hrd : RRd (fun j => j < w7.heap.size) (w7.heap.size + 1) w7.heap.size (w7.alloc (.cells #[.slice A7 b.length c7, .bool false] 100)) ⟨b, false⟩ := ⟨hr1, by omega, fun b hb => by omega⟩
 have hal := (Ext.refl w7).alloc (.cells #[.slice A7 b.length c7, .bool false] 100)
 have ha1 : DA (fun j => j < w7.heap.size) (w7.heap.size + 1) r w7.heap.size w (w7.alloc (.cells #[.slice A7 b.length c7, .bool false] 100)) ⟨b, false⟩ :=
  ⟨(HRS0.out.ext HE7.out).ext hal, hrd, (HX0.out.trans HE7.out).trans hal, HR.out.symm, (HRS0.out.ext HE7.out).b.lt, Nat.lt_succ_self _⟩
 have hgl : g < (w7.alloc (.cells #[.slice A7 b.length c7, .bool false] 100)).heap.size := by simp; omega
 rw [hg] at ha1
 try rw [hg]
 have HA1 := hid ha1
 have HGL := hid hgl
 clear hr1 hrd ha1 hal hgl
 obtain ⟨K, hK⟩ : ∃ K : Nat → Prop, K = fun j => j < g := ⟨_, rfl⟩
 rw [← hK] at HA1
 clear hK hg
 generalize w7.alloc (.cells #[.slice A7 b.length c7, .bool false] 100) = w1 at *
 clear HO7 HE7 HE0 HOL HV HX0 HRS0 HR
 go_wp2_with fail
 refine (HN1.out K g _ HA1.out.rd.nr).mono ?_
 rintro e w2 ⟨rfl, hr, he⟩
 have HA2 := hid (HA1.out.num hr he)
 have HGL2 := hid (show g < w2.heap.size from HA2.out.rd.nr.lt)
 clear hr he
 go_wp2_with fail
 refine (HN2.out K g _ HA2.out.rd.nr).mono ?_
 rintro e w3 ⟨rfl, hr, he⟩
 have HA3 := hid (HA2.out.num hr he)
 have HGL3 := hid (show g < w3.heap.size from HA3.out.rd.nr.lt)
 clear hr he
 go_wp2_with fail
 refine (HN3.out K g _ HA3.out.rd.nr).mono ?_
 rintro e w4 ⟨rfl, hr, he⟩
 have HA4 := hid (HA3.out.num hr he)
 have HGL4 := hid (show g < w4.heap.size from HA4.out.rd.nr.lt)
 clear hr he
 go_wp2_with fail
 refine (HN4.out K g _ HA4.out.rd.nr).mono ?_
 rintro e w5 ⟨rfl, hr, he⟩
 have HA5 := hid (HA4.out.num hr he)
 have HGL5 := hid (show g < w5.heap.size from HA5.out.rd.nr.lt)
 clear hr he
 have hal := (Ext.refl w5).alloc (scCs (.int .i64 (n1 : Nat)) (.int .i64 (n2 : Nat)) (.int .i64 (n3 : Nat)) (.int .i64 (n4 : Nat)) (.slice none 0 0) 0 (.slice none 0 0) (.slice none 0 0))
 have HB5 := hid (show DB K (g + 1) r g w5.heap.size w (w5.alloc (scCs (.int .i64 (n1 : Nat)) (.int .i64 (n2 : Nat)) (.int .i64 (n3 : Nat)) (.int .i64 (n4 : Nat)) (.slice none 0 0) 0 (.slice none 0 0) (.slice none 0 0))) s4 n1 n2 n3 n4 (.slice none 0 0) 0 (.slice none 0 0) (.slice none 0 0) from ⟨HA5.out.ext hal, Bx8.new _ _ _ _ _ _ _ _ _ _, HGL5.out⟩)
 clear hal
 go_upto_region 3 with fail
 obtain ⟨o, ho⟩ : ∃ o, o = w5.heap.size := ⟨_, rfl⟩
 rw [← ho] at HB5 ⊢
 clear ho
 generalize w5.alloc (scCs (.int .i64 (n1 : Nat)) (.int .i64 (n2 : Nat)) (.int .i64 (n3 : Nat)) (.int .i64 (n4 : Nat)) (.slice none 0 0) 0 (.slice none 0 0) (.slice none 0 0)) = w6 at *
 clear HA1 HA2 HA3 HA4 HA5 HGL HGL2 HGL3 HGL4 HGL5
 go_wp2_with fail
 refine (HN5.out K g _ HB5.out.a.rd.nr).mono ?_
 rintro e w8 ⟨rfl, hr, he⟩
 have HB8 := hid (HB5.out.num hr he)
 clear hr he
 go_wp2_with fail
 refine (HBY.out K g _ HB8.out.a.rd.nr).mono ?_
 rintro e w9 ⟨v9, rfl, ho9, hr, he⟩
 have HB9 := hid (HB8.out.num hr he)
 have HGC := hid (HGG.out v9 w9 ho9.rb)
 obtain ⟨A9, c9, rfl⟩ := ho9.form
 clear ho9 hr he
 go_wp2_with fail
 refine HGC.out.mono ?_
 rintro e w10 ⟨u, rfl, hn10, he10⟩
 dsimp only at hn10 ⊢
 obtain ⟨AU, cU, rfl⟩ := (hn10 w10 (ExtQ.refl _ _)).form
 have hal := (Ext.refl w10).alloc (gCs (.slice AU gl.length cU) gout)
 have HGB := hid (Blk.new w10 26 #[.slice AU gl.length cU, .int .i64 gout])
 have HB11 := hid ((HB9.out.ext he10).ext hal)
 have HOL := hid (show o < w9.heap.size ∧ w9.heap.size ≤ w10.heap.size from ⟨HB9.out.bo.b.lt, he10.size⟩)
 have HN10 := hid (show ∀ W, ExtQ (fun k => k ≤ o) w10 W → NodesR 2 W (.slice AU gl.length cU) gl from fun W hW => hn10 W (hW.mono fun k (hk : k ≤ o) => show k < w9.heap.size by have := HOL.out.1; omega))
 have HX11 := hid (show ExtQ (fun k => k ≤ o) w10 (w10.alloc (gCs (.slice AU gl.length cU) gout)) from ExtQ.of hal)
 clear hn10 he10 hal
 go_upto_region 4 with fail
 obtain ⟨gb, hgb⟩ : ∃ gb, gb = w10.heap.size := ⟨_, rfl⟩
 rw [← hgb] at HGB ⊢
 clear hgb
 generalize w10.alloc (gCs (.slice AU gl.length cU) gout) = w11 at *
 clear HB5 HB8 HB9 HGC HN1 HN2 HN3 HN4 HN5 HBY HGG
 cases gok with
 | false =>
  have HE := hid (show RES = none from HDD.out)
  obtain ⟨k0, k1, k2, k3, k4, k5, k6, k7⟩ := HB11.out.a.br.at_
  have j0 : w11.frozen? ⟨r, 0, none⟩ = false := HB11.out.a.br.b.frozen 0
  have j1 : w11.frozen? ⟨r, 1, none⟩ = false := HB11.out.a.br.b.frozen 1
  have j2 : w11.frozen? ⟨r, 2, none⟩ = false := HB11.out.a.br.b.frozen 2
  have j3 : w11.frozen? ⟨r, 3, none⟩ = false := HB11.out.a.br.b.frozen 3
  have j4 : w11.frozen? ⟨r, 4, none⟩ = false := HB11.out.a.br.b.frozen 4
  have j5 : w11.frozen? ⟨r, 5, none⟩ = false := HB11.out.a.br.b.frozen 5
  have j6 : w11.frozen? ⟨r, 6, none⟩ = false := HB11.out.a.br.b.frozen 6
  have j7 : w11.frozen? ⟨r, 7, none⟩ = false := HB11.out.a.br.b.frozen 7
  obtain ⟨hbw, hxw, hqw⟩ := @DA.fin _ _ _ _ _ _ _ HB11.out.a (.int .i64 0) (.int .i64 0) (.int .i64 0) (.int .i64 0) (.slice none 0 0) (.int .i64 0) (.slice none 0 0) (.slice none 0 0)
  have HBW := hid hbw
  have HXW := hid hxw
  have HQW := hid hqw
  clear hbw hxw hqw
  go_wp2
  generalize (((((((w11.setCell ⟨r, 0, none⟩ (.int .i64 0)).setCell ⟨r, 1, none⟩ (.int .i64 0)).setCell ⟨r, 2, none⟩ (.int .i64 0)).setCell ⟨r, 3, none⟩ (.int .i64 0)).setCell ⟨r, 4, none⟩ (.slice none 0 0)).setCell ⟨r, 5, none⟩ (.int .i64 0)).setCell ⟨r, 6, none⟩ (.slice none 0 0)).setCell ⟨r, 7, none⟩ (.slice none 0 0) = wz at *
  have y0 : wz.cell? ⟨r, 0, none⟩ = some (.int .i64 0) := HBW.out.b.cell 0
  have y1 : wz.cell? ⟨r, 1, none⟩ = some (.int .i64 0) := HBW.out.b.cell 1
  have y2 : wz.cell? ⟨r, 2, none⟩ = some (.int .i64 0) := HBW.out.b.cell 2
  have y3 : wz.cell? ⟨r, 3, none⟩ = some (.int .i64 0) := HBW.out.b.cell 3
  have y4 : wz.cell? ⟨r, 4, none⟩ = some (.slice none 0 0) := HBW.out.b.cell 4
  have y5 : wz.cell? ⟨r, 5, none⟩ = some (.int .i64 0) := HBW.out.b.cell 5
  have y6 : wz.cell? ⟨r, 6, none⟩ = some (.slice none 0 0) := HBW.out.b.cell 6
  have y7 : wz.cell? ⟨r, 7, none⟩ = some (.slice none 0 0) := HBW.out.b.cell 7
  exact bodyPost_ret (v := .tuple #[.agg #[.int .i64 0, .int .i64 0, .int .i64 0, .int .i64 0, .slice none 0 0, .int .i64 0, .slice none 0 0, .slice none 0 0], .bool false]) (by simp [results, Tryz.results15, go_sem, y0, y1, y2, y3, y4, y5, y6, y7]) rfl
   ⟨.slice none 0 0, .slice none 0 0, .slice none 0 0, by rw [HE.out]; rfl, by rw [HE.out]; exact scZ_nil _, HXW.out⟩
 | true =>
 have HDE := hid (show RES = (forR epR n s7).bind KK from HDD.out)
 clear HDD
 have m0 : w11.cell? ⟨gb, 0, none⟩ = some (.slice AU gl.length cU) := HGB.out.cell 0
 have m1 : w11.cell? ⟨gb, 1, none⟩ = some (.int .i64 gout) := HGB.out.cell 1
 have f4 : w11.frozen? ⟨o, 4, none⟩ = false := HB11.out.bo.b.frozen 4
 have f5 : w11.frozen? ⟨o, 5, none⟩ = false := HB11.out.bo.b.frozen 5
 obtain ⟨b0, b1, b2, b3, b4, b5, b6, b7⟩ := HB11.out.bo.at_
 go_upto_region 7 with fail
 clear b0 b1 b2 b3 b4 b5 b6 b7 f4 f5 m0 m1
 have HB12 := hid (HB11.out.set45 (.slice AU gl.length cU) gout)
 have HX12 := hid (up HX11.out ((setO w11 o 4 (.slice AU gl.length cU)).trans (setO (w11.setCell ⟨o, 4, none⟩ (.slice AU gl.length cU)) o 5 (.int .i64 gout))) (fun k hk => .inl (Nat.le_of_eq hk)))
 generalize (w11.setCell ⟨o, 4, none⟩ (.slice AU gl.length cU)).setCell ⟨o, 5, none⟩ (.int .i64 gout) = w12 at *
 clear HB11 HX11 HGB
 go_wp2_with fail
 refine (HC16.out K g _ HB12.out.a.rd.nr).mono ?_
 rintro e w13 ⟨rfl, hr, he⟩
 have HGO := hid (show r < g ∧ g < o from ⟨HB12.out.a.rg, by have h1 := HB12.out.a.gb; have h2 := HB12.out.bl; omega⟩)
 have HB13 := hid (HB12.out.num hr he)
 have HX13 := hid (up HX12.out (ExtQ.extG (Q := fun k => k = g) he rfl) (fun k (hk : k = g) => .inl (by have := HGO.out; omega)))
 have HC := hid (show o < w13.heap.size ∧ w10.heap.size ≤ w13.heap.size from ⟨HB13.out.bo.b.lt, HX13.out.size⟩)
 clear hr he HB12 HX12 HC16
 go_wp2
 go_loopw [9] (fun iv wr => ∃ (i m : Nat) (s' : Num.St) (l : List (List Bag)) (sl : Value), iv = .int .i64 (i : Int) ∧ l.length = i ∧ i + m = n ∧ RES = (addL l (forR epR m s')).bind KK ∧ s'.l.length ≤ 1000000 ∧ SmE l ∧
  OS (fun k => k ≤ o) 51 1 w13.heap.size EpQ wr sl l ∧ DB K (g + 1) r g o w wr s' n1 n2 n3 n4 (.slice AU gl.length cU) gout sl (.slice none 0 0) ∧ ExtQ (fun k => k ≤ o) w10 wr ∧ w13.heap.size ≤ wr.heap.size) (fun iv _ => n - (intOf iv).toNat)
 case atStart => exact ⟨0, n, s7, [], _, rfl, rfl, by simp, by rw [addL_nil]; exact HDE.out, HLN.out.1, fun x hx => absurd hx (List.not_mem_nil), OS.nil _ _ _ _ _ _, HB13.out, HX13.out, Nat.le_refl _⟩
 case round =>
  obtain ⟨i, m, s', l, sl, rfl, hil, him, hre, hsl, hsm, hos, hdb, hxr, hcr⟩ := hrel
  rename World => wr
  have HIL := hid hil
  have HIM := hid him
  have HRE := hid hre
  have HSL := hid hsl
  have HSM := hid hsm
  have HOS := hid hos
  have HDB := hid hdb
  have HXR := hid hxr
  have HCR := hid hcr
  clear hil him hre hsl hsm hos hdb hxr hcr HB13 HX13
  by_cases hin : i < n
  · have g1 : (i : Int) < (n : Int) := by omega
    have HIN := hid hin
    obtain ⟨m, rfl⟩ : ∃ m', m = m' + 1 := ⟨m - 1, by have := HIM.out; omega⟩
    have hi16 : i < 16 := by have := HLN.out.2; omega
    have HI16 := hid hi16
    have he4 := epR_eq s'
    have HC4 := hid (fun (K : Nat → Prop) g w (h : RR K w g s') => rcount_sc K g 4 s' w h HSL.out)
    have hl4 := countR_len 4 s'
    have hk4 := countR_le (most := 4) (by omega) s'
    have HRE2 := hid (show ∀ q, epR s' = some q → RES = (addL (l ++ [q.2]) (forR epR m q.1)).bind KK from fun q hq => by rw [HRE.out, addL_go hq])
    have HRE3 := hid (show epR s' = none → RES = none from fun hq => by rw [HRE.out, addL_no hq]; rfl)
    generalize countR 4 s' = t at *
    obtain ⟨sk, k⟩ := t
    dsimp only at *
    generalize epR s' = EE at *
    have HE4 := hid he4
    have HLK := hid (show sk.l.length ≤ 1000000 ∧ k ≤ 4 from ⟨by have := HSL.out; omega, by omega⟩)
    clear hin hi16 he4 hl4 hk4
    go_wp2_with fail
    refine (HC4.out K g _ HDB.out.a.rd.nr).mono ?_
    rintro e w14 ⟨rfl, hr, he⟩
    have hx14 : ExtQ (fun k => k = g) wr w14 := ExtQ.extG he rfl
    have HB14 := hid (HDB.out.num hr he)
    have HX14 := hid (up HXR.out hx14 (fun k (hk : k = g) => .inl (by have := HGO.out; omega)))
    obtain ⟨AS, cS, rfl⟩ := HOS.out.form
    have HO14 := hid (HOS.out.extQ hx14 (fun j (hj : j = g) => .inl (show j ≤ o by have := HGO.out; omega)) (fun j hj (hq : j ≤ o) => by have h1 := (HOS.out.lt hj).1; have h2 := HC.out.1; omega))
    have HC14 := hid (show w13.heap.size ≤ w14.heap.size from Nat.le_trans HCR.out hx14.size)
    clear hr he hx14 HDB HXR HOS HCR HC4
    go_wp2
    go_loopw [10, 12] (fun ev jv wq => ∃ (j mb : Nat) (sb : Num.St) (lb : List Bag), jv = .int .i64 (j : Int) ∧ lb.length = j ∧ j + mb = k ∧ EE = addL lb (forR bagR mb sb) ∧ sb.l.length ≤ 1000000 ∧ (∀ b ∈ lb, b.length ≤ 4096) ∧
     OS (fun q => q < w14.heap.size) 52 1 w14.heap.size BagQ wq ev lb ∧ DB K (g + 1) r g o w wq sb n1 n2 n3 n4 (.slice AU gl.length cU) gout (.slice AS l.length cS) (.slice none 0 0) ∧ ExtQ (fun q => q = g) w14 wq) (fun _ jv _ => k - (intOf jv).toNat)
    case atStart => exact ⟨0, k, sk, [], rfl, rfl, by simp, by rw [addL_nil]; exact HE4.out, HLK.out.1, fun x hx => absurd hx (List.not_mem_nil), OS.nil _ _ _ _ _ _, HB14.out, ExtQ.refl _ _⟩
    case round =>
     obtain ⟨j, mb, sb, lb, rfl, hjl, hjm, hje, hsb, hbm, hob, hdb, hxq⟩ := hrel
     rename World => wq
     obtain ⟨AE, cE, rfl⟩ := hob.form
     have HJL := hid hjl
     have HJM := hid hjm
     have HJE := hid hje
     have HSB := hid hsb
     have HBM := hid hbm
     have HOB := hid hob
     have HDB := hid hdb
     have HXQ := hid hxq
     clear hjl hjm hje hsb hbm hob hdb hxq HB14
     by_cases hjk : j < k
     · have g2 : (j : Int) < (k : Int) := by omega
       have HJK := hid hjk
       obtain ⟨mb, rfl⟩ : ∃ m', mb = m' + 1 := ⟨mb - 1, by have := HJM.out; omega⟩
       have HNB := hid (fun w (h : RR K w g sb) => rnum_any g sb w h HSB.out)
       have hb1 := bagR_eq sb
       have hlb := Num.numP_len sb
       have HJ2 := hid (show ∀ q, bagR sb = some q → EE = addL (lb ++ [q.2]) (forR bagR mb q.1) from fun q hq => by rw [HJE.out, addL_go hq])
       have HJ3 := hid (show bagR sb = none → EE = none from fun hq => by rw [HJE.out, addL_no hq])
       generalize Num.numP sb = t at *
       obtain ⟨sb1, nb⟩ := t
       dsimp only at *
       have HYB := hid (fun w (h : RR K w g sb1) => rbytes_any g (nb : Int) sb1 w h (by have := HSB.out; omega))
       have hlc := Num.bytesP_len (nb : Int) sb1
       have hld := bytesP_short nb sb1
       generalize Num.bytesP (nb : Int) sb1 = t at *
       obtain ⟨sb2, bb⟩ := t
       dsimp only at *
       have HDC := hid (fun v w h => rdec_any v bb w h (by have := HSB.out; omega))
       have hdl := decL_short bb
       generalize Rec.decE bb = er at *
       generalize Rec.decL bb = BL at *
       have HB1 := hid hb1
       have HDL := hid (show BL.length ≤ 4096 ∧ sb2.l.length ≤ 1000000 from ⟨hdl, by have := HSB.out; omega⟩)
       clear hjk hb1 hlb hlc hld hdl HJE
       go_wp2_with fail
       refine (HNB.out _ HDB.out.a.rd.nr).mono ?_
       rintro e w15 ⟨rfl, hr, he⟩
       have HB15 := hid (HDB.out.num hr he)
       have HX15 := hid (HXQ.out.trans (ExtQ.extG (Q := fun q => q = g) he rfl))
       have HOB15 := hid (HOB.out.extQ (ExtQ.extG (Q := fun q => q = g) he rfl) (fun j (hj : j = g) => .inl (show j < w14.heap.size by have h1 := HGO.out; have h2 := HC.out.1; have h3 := HC14.out; omega)) (fun j hj (hq : j < w14.heap.size) => by have h1 := (HOB.out.lt hj).1; omega))
       clear hr he
       go_wp2_with fail
       refine (HYB.out _ HB15.out.a.rd.nr).mono ?_
       rintro e w16 ⟨vb, rfl, hob, hr, he⟩
       have HB16 := hid (HB15.out.num hr he)
       have HX16 := hid (HX15.out.trans (ExtQ.extG (Q := fun q => q = g) he rfl))
       have HOB16 := hid (HOB15.out.extQ (ExtQ.extG (Q := fun q => q = g) he rfl) (fun j (hj : j = g) => .inl (show j < w14.heap.size by have h1 := HGO.out; have h2 := HC.out.1; have h3 := HC14.out; omega)) (fun j hj (hq : j < w14.heap.size) => by have h1 := (HOB15.out.lt hj).1; omega))
       have HDC2 := hid (HDC.out vb w16 hob.rb)
       obtain ⟨AB, cB, rfl⟩ := hob.form
       clear hr he hob
       go_wp2_with fail
       refine HDC2.out.mono ?_
       rintro e w17 ⟨ub, rfl, hub, he⟩
       have HB17 := hid (HB16.out.ext he)
       have HX17 := hid (HX16.out.trans (ExtQ.of he))
       have HOB17 := hid (HOB16.out.extQ (ExtQ.of (Q := fun _ => False) he) (fun j hj => hj.elim) (fun j hj (hq : j < w14.heap.size) => by have h1 := (HOB16.out.lt hj).1; omega))
       have HOL16 := hid (show ∀ j, (Value.slice AE lb.length cE).ownBlock = some j → j < w16.heap.size from fun j hj => (HOB16.out.lt hj).2)
       have HOZ := hid (show w14.heap.size ≤ w16.heap.size from HX16.out.size)
       obtain ⟨AC, cC, rfl⟩ := hub.rp.form
       have HUB := hid hub
       clear he hub HDB HB15 HB16 HX15 HX16 HXQ HOB HOB15 HOB16 HNB HYB HDC HDC2
       by_cases her : er = 0
       · subst her
         have HJ4 := hid (HJ2.out _ (by rw [HB1.out, if_pos rfl]))
         have HLX := hid ((Ext.refl w17).alloc (.cells #[.slice AC BL.length cC] 52))
         have HLR := hid (Rd.lit (size := 1) w17 #[.slice AC BL.length cC] 52 1 rfl (by unfold maxLen; omega))
         have HOBL := hid (HOB17.out.extQ (ExtQ.of (Q := fun _ => False) HLX.out) (fun j hj => hj.elim) (fun j hj (hq : j < w14.heap.size) => by have h1 := (HOB17.out.lt hj).1; omega))
         have HBL := hid (HB17.out.ext HLX.out)
         have HXL := hid (HX17.out.trans (ExtQ.of HLX.out))
         have HST := hid (show ∀ W, ExtQ (MayK (fun q => q < w14.heap.size) (.slice AE lb.length cE) (w17.alloc (.cells #[.slice AC BL.length cC] 52))) (w17.alloc (.cells #[.slice AC BL.length cC] 52)) W → BagQ W [.slice AC BL.length cC] BL from fun W hW =>
          ⟨_, rfl, (OP.extQ (OP.ext HUB.out HLX.out) hW (fun q hq hm => by
           have h1 := HUB.out.own.lt q hq
           rcases hm with hm | hm | hm
           · have h2 := HOZ.out; have hm : q < w14.heap.size := hm; omega
           · have h2 := HOL16.out q hm; omega
           · have h3 := HLX.out.size; omega)).rp⟩)
         clear HB17 HX17 HOB17
         have hq9 : (j : Int) + 1 ≤ 1000 := by have h1 := HJK.out; have h2 := HLK.out.2; omega
         go_wp2_with (at_builtin; refine Go.Ox.wpList_appS rfl elemBag _ (.tmp 72) (.tmp 74) rfl w14.heap.size _ _ lb rfl HOBL.out rfl [.slice AC BL.length cC] BL HLR.out (by intro u hu; simp at hu; subst hu; rfl) rfl HST.out (by have h1 := HJL.out; have h2 := HJK.out; have h3 := HLK.out.2; omega) (by have h1 := HJL.out; have h2 := HJK.out; have h3 := HLK.out.2; unfold maxLen; omega) HXL.out.size ?_; intro v' w18 ho18 hg18)
         have hgq := ExtQ.grown (Q := fun q => o < q) hg18 (fun q hq => by have h1 := (HOBL.out.lt hq).1; have h2 := HC.out.1; have h3 := HC14.out; show o < q; omega)
         have hgn := (HXL.out.mono (Q' := fun q => q = g ∨ w14.heap.size ≤ q) (fun q hq => .inl hq)).trans (ExtQ.grown hg18 (fun q hq => .inr (HOBL.out.lt hq).1))
         exact ⟨⟨j + 1, mb, sb2, lb ++ [BL], by go_num, by rw [List.length_append, List.length_singleton, HJL.out], by have := HJM.out; omega, HJ4.out, HDL.out.2, fun x hx => by
          rcases List.mem_append.1 hx with hx | hx
          · exact HBM.out x hx
          · obtain rfl := List.mem_singleton.1 hx; exact HDL.out.1, ho18, HBL.out.extQ hgq, hgn.mono' (fun q hq hm => hm.elim id fun e => by omega)⟩, by have := HJK.out; simp [intOf]; omega⟩
       · have HE := hid (HRE3.out (HJ3.out (by rw [HB1.out, if_neg her])))
         have hne : (er == 0) = false := by simpa using her
         clear her
         obtain ⟨k0, k1, k2, k3, k4, k5, k6, k7⟩ := HB17.out.a.br.at_
         have j0 : w17.frozen? ⟨r, 0, none⟩ = false := HB17.out.a.br.b.frozen 0
         have j1 : w17.frozen? ⟨r, 1, none⟩ = false := HB17.out.a.br.b.frozen 1
         have j2 : w17.frozen? ⟨r, 2, none⟩ = false := HB17.out.a.br.b.frozen 2
         have j3 : w17.frozen? ⟨r, 3, none⟩ = false := HB17.out.a.br.b.frozen 3
         have j4 : w17.frozen? ⟨r, 4, none⟩ = false := HB17.out.a.br.b.frozen 4
         have j5 : w17.frozen? ⟨r, 5, none⟩ = false := HB17.out.a.br.b.frozen 5
         have j6 : w17.frozen? ⟨r, 6, none⟩ = false := HB17.out.a.br.b.frozen 6
         have j7 : w17.frozen? ⟨r, 7, none⟩ = false := HB17.out.a.br.b.frozen 7
         obtain ⟨hbw, hxw, hqw⟩ := @DA.fin _ _ _ _ _ _ _ HB17.out.a (.int .i64 0) (.int .i64 0) (.int .i64 0) (.int .i64 0) (.slice none 0 0) (.int .i64 0) (.slice none 0 0) (.slice none 0 0)
         have HBW := hid hbw
         have HXW := hid hxw
         have HQW := hid hqw
         clear hbw hxw hqw
         go_wp2
         generalize (((((((w17.setCell ⟨r, 0, none⟩ (.int .i64 0)).setCell ⟨r, 1, none⟩ (.int .i64 0)).setCell ⟨r, 2, none⟩ (.int .i64 0)).setCell ⟨r, 3, none⟩ (.int .i64 0)).setCell ⟨r, 4, none⟩ (.slice none 0 0)).setCell ⟨r, 5, none⟩ (.int .i64 0)).setCell ⟨r, 6, none⟩ (.slice none 0 0)).setCell ⟨r, 7, none⟩ (.slice none 0 0) = wz at *
         have y0 : wz.cell? ⟨r, 0, none⟩ = some (.int .i64 0) := HBW.out.b.cell 0
         have y1 : wz.cell? ⟨r, 1, none⟩ = some (.int .i64 0) := HBW.out.b.cell 1
         have y2 : wz.cell? ⟨r, 2, none⟩ = some (.int .i64 0) := HBW.out.b.cell 2
         have y3 : wz.cell? ⟨r, 3, none⟩ = some (.int .i64 0) := HBW.out.b.cell 3
         have y4 : wz.cell? ⟨r, 4, none⟩ = some (.slice none 0 0) := HBW.out.b.cell 4
         have y5 : wz.cell? ⟨r, 5, none⟩ = some (.int .i64 0) := HBW.out.b.cell 5
         have y6 : wz.cell? ⟨r, 6, none⟩ = some (.slice none 0 0) := HBW.out.b.cell 6
         have y7 : wz.cell? ⟨r, 7, none⟩ = some (.slice none 0 0) := HBW.out.b.cell 7
         exact bodyPost_ret (v := .tuple #[.agg #[.int .i64 0, .int .i64 0, .int .i64 0, .int .i64 0, .slice none 0 0, .int .i64 0, .slice none 0 0, .slice none 0 0], .bool false]) (by simp [results, Tryz.results15, go_sem, y0, y1, y2, y3, y4, y5, y6, y7]) rfl
          ⟨.slice none 0 0, .slice none 0 0, .slice none 0 0, by rw [HE.out]; rfl, by rw [HE.out]; exact scZ_nil _, HXW.out⟩
     · have g2 : ¬ (j : Int) < (k : Int) := by omega
       obtain rfl : mb = 0 := by have := HJM.out; omega
       have HEE := hid (HRE2.out (sb, lb) (by rw [HJE.out, addL_done]))
       have HLB := hid (show lb.length ≤ 4 from by have h1 := HJL.out; have h2 := HJM.out; have h3 := HLK.out.2; omega)
       dsimp only at HEE
       clear hjk HJE HJM HRE HRE2 HRE3 HE4
       have HOSQ := hid (HO14.out.extQ HXQ.out (fun j (hj : j = g) => .inl (show j ≤ o by have := HGO.out; omega)) (fun j hj (hq : j ≤ o) => by have h1 := (HO14.out.lt hj).1; have h2 := HC.out.1; omega))
       have HLX := hid ((Ext.refl wq).alloc (.cells #[.slice AE lb.length cE] 51))
       have HLR := hid (Rd.lit (size := 1) wq #[.slice AE lb.length cE] 51 1 rfl (by unfold maxLen; omega))
       have HOSL := hid (HOSQ.out.extQ (ExtQ.of (Q := fun _ => False) HLX.out) (fun j hj => hj.elim) (fun j hj (hq : j ≤ o) => by have h1 := (HOSQ.out.lt hj).1; have h2 := HC.out.1; omega))
       have HOEL := hid (HOB.out.extQ (ExtQ.of (Q := fun _ => False) HLX.out) (fun j hj => hj.elim) (fun j hj (hq : j < w14.heap.size) => by have h1 := (HOB.out.lt hj).1; omega))
       have HBL := hid (HDB.out.ext HLX.out)
       have HXL := hid (HXQ.out.trans (ExtQ.of HLX.out))
       have HST := hid (show ∀ W, ExtQ (MayK (fun q => q ≤ o) (.slice AS l.length cS) (wq.alloc (.cells #[.slice AE lb.length cE] 51))) (wq.alloc (.cells #[.slice AE lb.length cE] 51)) W → EpQ W [.slice AE lb.length cE] lb from fun W hW =>
        ⟨_, rfl, EpR.of_rs (HOEL.out.extQ hW (fun q hq => by
         rcases hq with hq | hq | hq
         · exact .inl (by have h1 := HC.out.1; have h2 := HC14.out; have hq : q ≤ o := hq; show q < w14.heap.size; omega)
         · exact .inl (HO14.out.lt hq).2
         · exact .inr hq) (fun q hq (hm : q < w14.heap.size) => by have h1 := (HOEL.out.lt hq).1; omega)).rs⟩)
       obtain ⟨b0, b1, b2, b3, b4, b5, b6, b7⟩ := HDB.out.bo.at_
       clear HOB HOSQ HOEL HXQ
       have hq9 : (i : Int) + 1 ≤ 1000 := by have h1 := HI16.out; omega
       go_wp2_with (at_builtin; refine Go.Ox.wpList_appS rfl elemEp _ (.tmp 77) (.tmp 79) rfl w13.heap.size _ _ l rfl HOSL.out rfl [.slice AE lb.length cE] lb HLR.out (by intro u hu; simp at hu; subst hu; rfl) rfl HST.out (by have h1 := HIL.out; have h2 := HI16.out; omega) (by have h1 := HIL.out; have h2 := HI16.out; unfold maxLen; omega) (Nat.le_trans HC14.out HXL.out.size) ?_; intro v' w18 ho18 hg18; obtain ⟨n8, A8, c8, rfl⟩ : ∃ n A c, v' = .slice A n c := (by obtain ⟨A, c, h⟩ := ho18.form; exact ⟨_, A, c, h⟩); have HG18 := hid (ExtQ.grown (Q := fun q => w13.heap.size ≤ q) hg18 (fun q hq => (HOSL.out.lt hq).1)); have HB18 := hid (HBL.out.extQ (HG18.out.mono fun q hq => by have h2 := HC.out.1; have hq : w13.heap.size ≤ q := hq; show o < q; omega)); have HO18 := hid ho18; clear ho18 hg18; have f6 := HB18.out.bo.b.frozen 6; have f6 : w18.frozen? ⟨o, 6, none⟩ = false := f6; have d6 : w18.cell? ⟨o, 6, none⟩ = some (.slice AS l.length cS) := HB18.out.bo.b.cell 6)
       clear b0 b1 b2 b3 b4 b5 b6 b7 f6 d6
       have HB19 := hid (HB18.out.set6 (.slice A8 n8 c8))
       have hst := setO w18 o 6 (.slice A8 n8 c8)
       have HX19 := hid (up HX14.out ((HXL.out.mono (Q' := fun q => q ≤ o ∨ w13.heap.size ≤ q) (fun q (hq : q = g) => .inl (by have := HGO.out; omega))).trans ((HG18.out.mono (Q' := fun q => q ≤ o ∨ w13.heap.size ≤ q) (fun q hq => .inr hq)).trans (hst.mono fun q (hq : q = o) => .inl (by omega)))) (fun q hq => hq.elim .inl fun e => .inr (by have := HC.out.2; omega)))
       exact ⟨⟨i + 1, m, sb, l ++ [lb], .slice A8 n8 c8, by go_num, by rw [List.length_append, List.length_singleton, HIL.out], by have := HIM.out; omega, HEE.out, HSB.out, HSM.out.snoc HLB.out HBM.out, HO18.out.extQ hst (fun j (hj : j = o) => .inl (show j ≤ o by omega)) (fun j hj (hq : j ≤ o) => by have h1 := (HO18.out.lt hj).1; have h2 := HC.out.1; omega), HB19.out, HX19.out, Nat.le_trans HC14.out (Nat.le_trans HXL.out.size (Nat.le_trans HG18.out.size hst.size))⟩, by have := HIN.out; simp [intOf]; omega⟩
  · have g1 : ¬ (i : Int) < (n : Int) := by omega
    obtain rfl : m = 0 := by have := HIM.out; omega
    have HKR : RES = KK (s', l) := by rw [HRE.out, addL_done]; rfl
    rw [HKK.out (s', l)] at HKR
    dsimp only at HKR
    have HLI := hid (show l.length ≤ 16 from by have h1 := HIL.out; have h2 := HIM.out; have h3 := HLN.out.2; omega)
    clear hin HRE HIM HDE HKK
    have HCB := hid (fun (K : Nat → Prop) g w (h : RR K w g s') => rcount_sc K g 256 s' w h HSL.out)
    have hlb := countR_len 256 s'
    have hnb := countR_le (most := 256) (by omega) s'
    generalize countR 256 s' = t at *
    obtain ⟨sa, na⟩ := t
    dsimp only at *
    obtain ⟨K2, hk2⟩ : ∃ K2, K2 = k2 ((n1 : Int), (n2 : Int), (n3 : Int), (n4 : Int)) (gl, gout) l := ⟨_, rfl⟩
    rw [← hk2] at HKR
    have HK2 := hid (show ∀ A : Num.St × List Sc.Act, K2 A = if A.1.bad = true ∨ A.1.l ≠ [] ∨ scOk ⟨((n1 : Int), (n2 : Int), (n3 : Int), (n4 : Int)), (gl, gout), l, A.2⟩ = false then none else some ⟨((n1 : Int), (n2 : Int), (n3 : Int), (n4 : Int)), (gl, gout), l, A.2⟩ from fun A => by rw [hk2]; rfl)
    have HKE := hid HKR
    have HLA := hid (show sa.l.length ≤ 1000000 ∧ na ≤ 256 from ⟨by have := HSL.out; omega, by omega⟩)
    clear hk2 HKR hlb hnb
    obtain ⟨AS, cS, rfl⟩ := HOS.out.form
    have HSTB := hid (show ∀ W, ExtQ (fun k => k ≤ o) wr W → NodesR 2 W (.slice AU gl.length cU) gl ∧ InsR W (.slice AS l.length cS) l from fun W hW =>
     ⟨HN10.out W (up HXR.out hW (fun k hk => .inl hk)), InsR.of_rs (HOS.out.extQ hW (fun j (hj : j ≤ o) => .inl hj) (fun j hj (hq : j ≤ o) => by have h1 := (HOS.out.lt hj).1; have h2 := HC.out.1; omega)).rs⟩)
    go_wp2_with fail
    refine (HCB.out K g _ HDB.out.a.rd.nr).mono ?_
    rintro e w14 ⟨rfl, hr, he⟩
    have HB14 := hid (HDB.out.num hr he)
    have HX14 := hid (up (ExtQ.refl (fun k => k ≤ o) wr) (ExtQ.extG (Q := fun k => k = g) he rfl) (fun k (hk : k = g) => .inl (by have := HGO.out; omega)))
    have HC14 := hid (show o < w14.heap.size ∧ wr.heap.size ≤ w14.heap.size from ⟨HB14.out.bo.b.lt, HX14.out.size⟩)
    clear hr he HDB HXR HOS HCR HCB HN10
    go_wp2
    go_loopw [15] (fun iv wq => ∃ (j m : Nat) (s2 : Num.St) (al : List Sc.Act) (av : Value), iv = .int .i64 (j : Int) ∧ al.length = j ∧ j + m = na ∧ RES = (addL al (forR actR m s2)).bind K2 ∧ s2.l.length ≤ 1000000 ∧ SmA al ∧
     OS (fun k => k ≤ o) 47 6 w14.heap.size ActQ wq av al ∧ DB K (g + 1) r g o w wq s2 n1 n2 n3 n4 (.slice AU gl.length cU) gout (.slice AS l.length cS) av ∧ ExtQ (fun k => k ≤ o) wr wq ∧ w14.heap.size ≤ wq.heap.size) (fun iv _ => na - (intOf iv).toNat)
    case atStart => exact ⟨0, na, sa, [], _, rfl, rfl, by simp, by rw [addL_nil]; exact HKE.out, HLA.out.1, fun x hx => absurd hx (List.not_mem_nil), OS.nil _ _ _ _ _ _, HB14.out, HX14.out, Nat.le_refl _⟩
    case round =>
     obtain ⟨j, m, s2, al, av, rfl, hjl, hjm, hre, hs2, hsm, hoa, hdb, hxq, hcq⟩ := hrel
     rename World => wq
     have HJL := hid hjl
     have HJM := hid hjm
     have HRE := hid hre
     have HS2 := hid hs2
     have HSMA := hid hsm
     have HOA := hid hoa
     have HDB := hid hdb
     have HXQ := hid hxq
     have HCQ := hid hcq
     obtain ⟨AV, cV, rfl⟩ := hoa.form
     clear hjl hjm hre hs2 hsm hoa hdb hxq hcq HB14 HX14
     by_cases hjn : j < na
     · have g2 : (j : Int) < (na : Int) := by omega
       have HJN := hid hjn
       obtain ⟨m, rfl⟩ : ∃ m', m = m' + 1 := ⟨m - 1, by have := HJM.out; omega⟩
       have hre2 : RES = (addL (al ++ [(actRP s2).2]) (forR actR m (actRP s2).1)).bind K2 := by rw [HRE.out, addL_go (actR_eq s2)]
       have hap := actRP_eq s2
       clear hjn
       generalize actRP s2 = AR at *
       have HM1 := hid (fun w (h : RR K w g s2) => rnum_any g s2 w h HS2.out)
       have hm1 := Num.numP_len s2
       generalize Num.numP s2 = t at *
       obtain ⟨t1, a1⟩ := t
       dsimp only at *
       have HM2 := hid (fun w (h : RR K w g t1) => rnum_any g t1 w h (by have := HS2.out; omega))
       have hm2 := Num.numP_len t1
       generalize Num.numP t1 = t at *
       obtain ⟨t2, a2⟩ := t
       dsimp only at *
       have HM3 := hid (fun w (h : RR K w g t2) => rnum_any g t2 w h (by have := HS2.out; omega))
       have hm3 := Num.numP_len t2
       generalize Num.numP t2 = t at *
       obtain ⟨t3, a3⟩ := t
       dsimp only at *
       have HM4 := hid (fun w (h : RR K w g t3) => rnum_any g t3 w h (by have := HS2.out; omega))
       have hm4 := Num.numP_len t3
       generalize Num.numP t3 = t at *
       obtain ⟨t4, a4⟩ := t
       dsimp only at *
       have HM5 := hid (fun w (h : RR K w g t4) => rnum_any g t4 w h (by have := HS2.out; omega))
       have hm5 := Num.numP_len t4
       generalize Num.numP t4 = t at *
       obtain ⟨t5, a5⟩ := t
       dsimp only at *
       have HMC := hid (fun w (h : RR K w g t5) => rcount_sc K g 256 t5 w h (by have := HS2.out; omega))
       have hmc := countR_len 256 t5
       have hmk := countR_le (most := 256) (by omega) t5
       generalize countR 256 t5 = t at *
       obtain ⟨tk, ka⟩ := t
       dsimp only at *
       generalize hsq : seqR ka tk = SQ at *
       have HSQ := hid hsq
       have HAR := hid hap
       have HRE2 := hid hre2
       have HLK := hid (show tk.l.length ≤ 1000000 ∧ ka ≤ 256 from ⟨by have := HS2.out; omega, by omega⟩)
       clear hap hre2 hsq hm1 hm2 hm3 hm4 hm5 hmc hmk HRE
       have HY0 := hid (ExtQ.refl (fun k => k = g) wq)
       have HD0 := hid HDB.out
       go_wp2_with fail
       refine (HM1.out _ HD0.out.a.rd.nr).mono ?_
       rintro e u1 ⟨rfl, hr, he⟩
       have HD1 := hid (HD0.out.num hr he)
       have HY1 := hid (HY0.out.trans (ExtQ.extG (Q := fun k => k = g) he rfl))
       clear hr he
       go_wp2_with fail
       refine (HM2.out _ HD1.out.a.rd.nr).mono ?_
       rintro e u2 ⟨rfl, hr, he⟩
       have HD2 := hid (HD1.out.num hr he)
       have HY2 := hid (HY1.out.trans (ExtQ.extG (Q := fun k => k = g) he rfl))
       clear hr he
       go_wp2_with fail
       refine (HM3.out _ HD2.out.a.rd.nr).mono ?_
       rintro e u3 ⟨rfl, hr, he⟩
       have HD3 := hid (HD2.out.num hr he)
       have HY3 := hid (HY2.out.trans (ExtQ.extG (Q := fun k => k = g) he rfl))
       clear hr he
       go_wp2_with fail
       refine (HM4.out _ HD3.out.a.rd.nr).mono ?_
       rintro e u4 ⟨rfl, hr, he⟩
       have HD4 := hid (HD3.out.num hr he)
       have HY4 := hid (HY3.out.trans (ExtQ.extG (Q := fun k => k = g) he rfl))
       clear hr he
       go_wp2_with fail
       refine (HM5.out _ HD4.out.a.rd.nr).mono ?_
       rintro e u5 ⟨rfl, hr, he⟩
       have HD5 := hid (HD4.out.num hr he)
       have HY5 := hid (HY4.out.trans (ExtQ.extG (Q := fun k => k = g) he rfl))
       clear hr he
       have hal := (Ext.refl u5).alloc (actCs a1 a2 a3 a4 a5 (.slice none 0 0))
       have HBA := hid (Bx6.new u5 47 (.int .i64 (a1 : Nat)) (.int .i64 (a2 : Nat)) (.int .i64 (a3 : Nat)) (.int .i64 (a4 : Nat)) (.int .i64 (a5 : Nat)) (.slice none 0 0))
       have HD6 := hid (HD5.out.ext hal)
       have HY6 := hid (HY5.out.trans (ExtQ.of hal))
       clear hal
       go_upto_region 26 with fail
       obtain ⟨a, ha⟩ : ∃ a, a = u5.heap.size := ⟨_, rfl⟩
       rw [← ha] at HBA ⊢
       have HAA := hid (show wq.heap.size ≤ a from by rw [ha]; exact HY5.out.size)
       clear ha
       generalize u5.alloc (actCs a1 a2 a3 a4 a5 (.slice none 0 0)) = u6 at *
       clear HD0 HD1 HD2 HD3 HD4 HD5 HY0 HY1 HY2 HY3 HY4 HY5 HM1 HM2 HM3 HM4 HM5
       go_wp2_with fail
       refine (HMC.out _ HD6.out.a.rd.nr).mono ?_
       rintro e u7 ⟨rfl, hr, he⟩
       have HD7 := hid (HD6.out.num hr he)
       have HY7 := hid (HY6.out.trans (ExtQ.extG (Q := fun q => q = g) he rfl))
       have HNA := hid (show o < a ∧ g < o ∧ w14.heap.size ≤ a from by have h1 := HAA.out; have h2 := HCQ.out; have h3 := HC14.out; have h4 := HGO.out; omega)
       have HB7 := hid (Bx6.extQ HBA.out (ExtQ.extG (Q := fun q => q = g) he rfl) (fun (e : a = g) => by have := HNA.out; omega))
       have HAS := hid (show a < u7.heap.size from HB7.out.b.lt)
       clear hr he HMC HD6 HY6 HBA
       go_wp2
       go_loopw [18] (fun jv wp => ∃ (q mb : Nat) (sb : Num.St) (acc : List Int) (ksl : Value), jv = .int .i64 (q : Int) ∧ acc.length = q ∧ q + mb = ka ∧ SQ = ((seqR mb sb).1, acc ++ (seqR mb sb).2) ∧ sb.l.length ≤ 1000000 ∧
        Bx6 wp a 47 (.int .i64 (a1 : Nat)) (.int .i64 (a2 : Nat)) (.int .i64 (a3 : Nat)) (.int .i64 (a4 : Nat)) (.int .i64 (a5 : Nat)) ksl ∧ OE 3 u7.heap.size wp ksl acc ∧
        DB K (g + 1) r g o w wp sb n1 n2 n3 n4 (.slice AU gl.length cU) gout (.slice AS l.length cS) (.slice AV al.length cV) ∧ ExtQ (fun q => q = g) wq wp ∧ u7.heap.size ≤ wp.heap.size) (fun jv _ => ka - (intOf jv).toNat)
       case atStart => exact ⟨0, ka, tk, [], _, rfl, rfl, by simp, by rw [HSQ.out]; rfl, HLK.out.1, HB7.out, OE.nilS _ _ _, HD7.out, HY7.out, Nat.le_refl _⟩
       case round =>
        obtain ⟨q, mb, sb, acc, ksl, rfl, hql, hqm, hqe, hsb, hba, hok, hdb, hxp, hcp⟩ := hrel
        rename World => wp
        obtain ⟨AO, cO, rfl⟩ := hok.re.form
        have HQL := hid hql
        have HQM := hid hqm
        have HQE := hid hqe
        have HSB := hid hsb
        have HBA := hid hba
        have HO := hid hok
        have HDP := hid hdb
        have HXP := hid hxp
        have HCP := hid hcp
        clear hql hqm hqe hsb hba hok hdb hxp hcp HB7 HD7 HY7
        have HOW := hid (show ∀ i, (Value.slice AO acc.length cO).ownBlock = some i → u7.heap.size ≤ i from fun i hi => (HO.out.own.lt i hi).1)
        have HOA2 := hid (show (Value.slice AO acc.length cO).ownBlock ≠ some a ∧ (Value.slice AO acc.length cO).ownBlock ≠ some g from ⟨fun e => by have h1 := HOW.out _ e; have h2 := HAS.out; omega, fun e => by have h1 := HOW.out _ e; have h2 := HAS.out; have h3 := HNA.out; omega⟩)
        by_cases hqk : q < ka
        · have g3 : (q : Int) < (ka : Int) := by omega
          have HQK := hid hqk
          obtain ⟨mb, rfl⟩ : ∃ m', mb = m' + 1 := ⟨mb - 1, by have := HQM.out; omega⟩
          have hqe := HQE.out
          rw [seqR_go] at hqe
          have HNU := hid (fun w (h : RR K w g sb) => rnum_any g sb w h HSB.out)
          have hln := Num.numP_len sb
          generalize Num.numP sb = t at *
          obtain ⟨sn, nn⟩ := t
          dsimp only at *
          have HQ2 := hid (show SQ = ((seqR mb sn).1, (acc ++ [(nn : Int)]) ++ (seqR mb sn).2) from by rw [hqe]; simp)
          have HSN := hid (show sn.l.length ≤ 1000000 from by have := HSB.out; omega)
          have HQ256 := hid (show acc.length ≤ 256 from by have h1 := HQL.out; have h2 := HQK.out; have h3 := HLK.out.2; omega)
          clear hqk hqe hln HQE
          go_upto_region 30 with fail
          refine wp_region_tailZ 7 [110, 112] [111] Ext (ExtQ (fun k => k = g ∨ (Value.slice AO acc.length cO).ownBlock = some k)) (fun w' => RRd K (g + 1) g w' sb ∧ OE 3 u7.heap.size w' (.slice AO acc.length cO) acc) (by kernel_rfl) (by kernel_rfl) (by kernel_rfl) (by kernel_rfl) (by kernel_rfl) (by kernel_rfl) (by kernel_rfl) (by rfl) (by rfl) (by kernel_rfl) (by kernel_rfl) (by kernel_rfl) (fun _ _ _ x y => x.trans y) (ExtQ.refl _) (fun _ _ x => ExtQ.of x) Ext.refl (Ext.refl _).drew (fun _ _ x y => ⟨x.1.ext y, OE.ext x.2 y⟩) (⟨HDP.out.a.rd, HO.out⟩) ?_
          repeat (first | (refine wpZ_move0 rfl rfl (fun _ => (runsX rfl)) Ext.refl rfl rfl (fun _ => rfl) ?_; apply Exists.intro; refine ⟨?_, ?_⟩; · (go_simp; rfl)) | (refine wpZ_val rfl rfl (fun _ => (runsX rfl)) Ext.refl rfl ?_; apply Exists.intro; refine ⟨?_, ?_⟩; · (intro c a w' hR; (try (intro h1; try have e1 : _ = _ := h1)); (try (intro h2; try have e2 : _ = _ := h2)); (try (intro h3; try have e3 : _ = _ := h3)); go_simp; rfl)))
          refine wpZ_val rfl rfl (fun _ => (runsX rfl)) Ext.refl rfl ?_; apply Exists.intro; refine ⟨?_, ?_⟩
          · intro c a w' hR h1
            have e1 : _ = _ := h1
            have hl1 := (HBA.out.b.extQ hR (notQ (by have := HNA.out; omega) HOA2.out.1)).cell 5
            go_simp
            rfl
          repeat (first | (refine wpZ_move0 rfl rfl (fun _ => (runsX rfl)) Ext.refl rfl rfl (fun _ => rfl) ?_; apply Exists.intro; refine ⟨?_, ?_⟩; · (go_simp; rfl)) | (refine wpZ_val rfl rfl (fun _ => (runsX rfl)) Ext.refl rfl ?_; apply Exists.intro; refine ⟨?_, ?_⟩; · (intro c a w' hR; (try (intro h1; try have e1 : _ = _ := h1)); (try (intro h2; try have e2 : _ = _ := h2)); (try (intro h3; try have e3 : _ = _ := h3)); go_simp; rfl)))
          refine wpZ_eff (fun c v _ => v = .int .i64 (nn : Nat)) (fun w' => RRd K (g + 1) g w' sn ∧ OE 3 u7.heap.size w' (.slice AO acc.length cO) acc) rfl (runsX rfl) rfl (keptC_eq) (fun _ _ x y => ⟨x.1.ext y, OE.ext x.2 y⟩) ?_ ?_
          · intro a w' hR hS h1 K hK
            have e1 : _ = _ := h1
            go_simp
            refine (HNU.out w' hS.1.nr).mono ?_
            rintro e w3 ⟨rfl, hr3, he3⟩
            exact hK _ _ (ExtQ.extG he3 (.inl rfl)) ⟨hS.1.num hr3, OE.extQ' hS.2 (ExtQ.extG (Q := fun k => k = g) he3 rfl) (fun i hi e => HOA2.out.2 (by rw [hi, e]))⟩ rfl
          refine wpZ_callA (fun c v w => 1 ≤ c ∧ (c ≤ 1 → RE w v [(nn : Int)])) rfl rfl (runsX rfl) rfl (keptC_at fun _ _ _ h k => RE.ext h k) ?_ ?_
          · intro a w' hR hS h1 K hK
            have e1 : _ = _ := h1
            have q1 : a.tmps[110]?.getD undef = .int .i64 (nn : Nat) := by rw [← Array.getD_eq_getD_getElem?]; exact e1
            go_simp
            exact hK _ _ ((Ext.refl _).alloc _) ⟨Nat.le_refl _, fun _ => reI_lit _ _⟩
          refine wpZ_eff (fun c v w => 2 ≤ c ∧ (c ≤ 2 → OE 3 u7.heap.size w v (acc ++ [(nn : Int)]))) (fun w' => RRd K (g + 1) g w' sn) rfl (runsX rfl) rfl (keptC_at fun _ _ _ h k => OE.ext h k) (fun _ _ x y => x.ext y) ?_ ?_
          · intro a w' hR hS h1 h2 K hK
            have e1 : _ = _ := h1
            obtain ⟨y, ey, fy⟩ : ∃ x, a.tmps.getD 111 undef = x ∧ (fun v w => 1 ≤ 0 + 1 ∧ (0 + 1 ≤ 1 → RE w v [(nn : Int)])) x w' := ⟨_, rfl, h2⟩
            refine wp_app elemI w' (.tmp 108) (.tmp 111) rfl u7.heap.size _ acc.length (eV acc) e1 hS.2.own _ 1 (eV [(nn : Int)]) ey (fy.2 (Nat.le_refl _)).rd (one_eV _) (by have := HQ256.out; omega) (by have := HQ256.out; unfold maxLen; omega) (Nat.le_trans HCP.out hR.size) ?_
            intro v' w3 ha
            exact hK _ _ (ExtQ.grown ha.grown (fun i hi => .inr hi)) (hS.1.extQ (ExtQ.grown ha.grown (fun i hi => by have h1 := (HO.out.own.lt i hi).1; have h2 := HAS.out; have h3 := HNA.out; show g + 1 ≤ i; omega))) ⟨Nat.le_refl _, fun _ => OE.app' ha⟩
          repeat (first | (refine wpZ_move0 rfl rfl (fun _ => (runsX rfl)) Ext.refl rfl rfl (fun _ => rfl) ?_; apply Exists.intro; refine ⟨?_, ?_⟩; · (go_simp; rfl)) | (refine wpZ_val rfl rfl (fun _ => (runsX rfl)) Ext.refl rfl ?_; apply Exists.intro; refine ⟨?_, ?_⟩; · (intro c a w' hR; (try (intro h1; try have e1 : _ = _ := h1)); (try (intro h2; try have e2 : _ = _ := h2)); (try (intro h3; try have e3 : _ = _ := h3)); go_simp; rfl)))
          refine wpZ_done ?_
          intro w6 hx6 hS6
          iterate 4 (rintro _ rfl)
          rintro v111 h9
          rintro v112 h10
          rintro _ rfl
          dsimp only [FinV]
          go_simp
          have ho6 := h10.2 (Nat.le_refl _)
          obtain ⟨A6, c6, hv6⟩ := ho6.re.form
          rw [List.length_append, List.length_singleton] at hv6
          subst hv6
          have HO6 := hid ho6
          have HX6 := hid (show ExtQ (fun k => k = g ∨ (Value.slice AO acc.length cO).ownBlock = some k) wp w6 from hx6)
          have HD6 := hid (HDP.out.step (s' := sn) (HX6.out.mono fun i hi => hi.elim .inl fun e => .inr (by have h1 := HOW.out _ e; have h2 := HAS.out; have h3 := HNA.out; show o < i; omega)) hS6)
          have HB6 := hid (Bx6.extQ HBA.out HX6.out (notQ (by have := HNA.out; omega) HOA2.out.1))
          clear h9 h10 ho6 hS6 hx6
          have f1 : w6.frozen? ⟨a, 5, none⟩ = false := HB6.out.b.frozen 5
          obtain ⟨b0, b1, b2, b3, b4, b5⟩ := HB6.out.at_
          have hst := setO w6 a 5 (.slice A6 (acc.length + 1) c6)
          have HB8 := hid (HB6.out.set5 (.slice A6 (acc.length + 1) c6))
          have HD8 := hid (HD6.out.extQ (hst.mono fun i (hi : i = a) => show o < i by have := HNA.out; omega))
          have HO8 := hid (OE.extQ' HO6.out hst (fun i hi (e : i = a) => by have h1 := (HO6.out.own.lt i hi).1; have h2 := HAS.out; omega))
          have HX8 := hid (((HXP.out.mono (Q' := fun k => k = g ∨ wq.heap.size ≤ k) fun i hi => .inl hi).trans ((HX6.out.mono fun i hi => hi.elim .inl fun e => .inr (by have h1 := HOW.out _ e; have h2 := HAS.out; have h3 := HAA.out; omega)).trans (hst.mono fun i (hi : i = a) => .inr (by have h3 := HAA.out; omega)))).mono' (Q' := fun k => k = g) (fun i hi hm => hm.elim id fun e => by omega))
          have HC8 := hid (show u7.heap.size ≤ (w6.setCell ⟨a, 5, none⟩ (.slice A6 (acc.length + 1) c6)).heap.size from Nat.le_trans HCP.out (Nat.le_trans HX6.out.size hst.size))
          clear hst
          obtain ⟨q2, hq2⟩ : ∃ q2, q2 = acc.length + 1 := ⟨_, rfl⟩
          rw [← hq2] at HB8 HD8 HO8 HX8 HC8 ⊢
          have HQQ := hid hq2
          clear hq2
          have hq9 : (q : Int) + 1 ≤ 1000 := by have h1 := HQK.out; have h2 := HLK.out.2; omega
          simp only [thenTail, List.drop_succ_cons, List.drop_zero]
          go_wp2
          exact ⟨⟨q + 1, mb, sn, acc ++ [(nn : Int)], _, by go_num, by rw [List.length_append, List.length_singleton, HQL.out], by have := HQM.out; omega, HQ2.out, HSN.out, HB8.out, HO8.out, HD8.out, HX8.out, HC8.out⟩, by have := HQK.out; simp [intOf]; omega⟩
        · have g3 : ¬ (q : Int) < (ka : Int) := by omega
          obtain rfl : mb = 0 := by have := HQM.out; omega
          have HSE := hid (show SQ = (sb, acc) from by rw [HQE.out]; simp [seqR])
          have HKL := hid (show acc.length ≤ 256 from by have h1 := HQL.out; have h2 := HQM.out; have h3 := HLK.out.2; omega)
          have hre2 := HRE2.out
          rw [HAR.out] at hre2
          dsimp only at hre2
          rw [HSE.out] at hre2
          dsimp only at hre2
          have HRE3 := hid hre2
          clear hqk HQE HQM hre2
          have HOAQ := hid (HOA.out.extQ HXP.out (fun j (hj : j = g) => .inl (show j ≤ o by have := HNA.out; omega)) (fun j hj (hq : j ≤ o) => by have h1 := (HOA.out.lt hj).1; have h2 := HC14.out; omega))
          have HLX := hid ((Ext.refl wp).alloc (.cells #[.int .i64 (a1 : Nat), .int .i64 (a2 : Nat), .int .i64 (a3 : Nat), .int .i64 (a4 : Nat), .int .i64 (a5 : Nat), .slice AO acc.length cO] 47))
          have HLR := hid (Rd.lit (size := 6) wp #[.int .i64 (a1 : Nat), .int .i64 (a2 : Nat), .int .i64 (a3 : Nat), .int .i64 (a4 : Nat), .int .i64 (a5 : Nat), .slice AO acc.length cO] 47 1 rfl (by unfold maxLen; omega))
          have HOAL := hid (HOAQ.out.extQ (ExtQ.of (Q := fun _ => False) HLX.out) (fun j hj => hj.elim) (fun j hj (hq : j ≤ o) => by have h1 := (HOAQ.out.lt hj).1; have h2 := HC14.out; omega))
          have HBL := hid (HDP.out.ext HLX.out)
          have HXL := hid (HXP.out.trans (ExtQ.of HLX.out))
          have HST := hid (show ∀ W, ExtQ (MayK (fun q => q ≤ o) (.slice AV al.length cV) (wp.alloc (.cells #[.int .i64 (a1 : Nat), .int .i64 (a2 : Nat), .int .i64 (a3 : Nat), .int .i64 (a4 : Nat), .int .i64 (a5 : Nat), .slice AO acc.length cO] 47))) (wp.alloc (.cells #[.int .i64 (a1 : Nat), .int .i64 (a2 : Nat), .int .i64 (a3 : Nat), .int .i64 (a4 : Nat), .int .i64 (a5 : Nat), .slice AO acc.length cO] 47)) W →
           ActQ W [.int .i64 (a1 : Nat), .int .i64 (a2 : Nat), .int .i64 (a3 : Nat), .int .i64 (a4 : Nat), .int .i64 (a5 : Nat), .slice AO acc.length cO] (((a1 : Int), (a2 : Int), (a3 : Int), (a4 : Int), (a5 : Int)), acc) from fun W hW =>
           ⟨_, rfl, (OE.extQ' (OE.ext HO.out HLX.out) hW (fun q hq hm => by
            have h1 := HO.out.own.lt q hq
            have h4 := HAS.out
            rcases hm with hm | hm | hm
            · have h2 := HNA.out; have hm : q ≤ o := hm; omega
            · have h2 := (HOA.out.lt hm).2; have h3 := HAA.out; omega
            · have h3 := HLX.out.size; omega)).re⟩)
          obtain ⟨b0, b1, b2, b3, b4, b5, b6, b7⟩ := HDP.out.bo.at_
          obtain ⟨d0, d1, d2, d3, d4, d5⟩ := HBA.out.at_
          clear HO HOAQ HXP
          have hq9 : (j : Int) + 1 ≤ 1000 := by have h1 := HJN.out; have h2 := HLA.out.2; omega
          go_wp2_with (at_builtin; refine Go.Ox.wpList_appS rfl elemAct _ (.tmp 115) (.tmp 117) rfl w14.heap.size _ _ al rfl HOAL.out rfl [.int .i64 (a1 : Nat), .int .i64 (a2 : Nat), .int .i64 (a3 : Nat), .int .i64 (a4 : Nat), .int .i64 (a5 : Nat), .slice AO acc.length cO] (((a1 : Int), (a2 : Int), (a3 : Int), (a4 : Int), (a5 : Int)), acc) HLR.out (act_one _ _ _ _ _ _ _ _) rfl HST.out (by have h1 := HJL.out; have h2 := HJN.out; have h3 := HLA.out.2; omega) (by have h1 := HJL.out; have h2 := HJN.out; have h3 := HLA.out.2; unfold maxLen; omega) (Nat.le_trans HCQ.out HXL.out.size) ?_; intro v' w18 ho18 hg18; obtain ⟨n8, A8, c8, rfl⟩ : ∃ n A c, v' = .slice A n c := (by obtain ⟨A, c, h⟩ := ho18.form; exact ⟨_, A, c, h⟩); have HG18 := hid (ExtQ.grown (Q := fun q => w14.heap.size ≤ q) hg18 (fun q hq => (HOAL.out.lt hq).1)); have HB18 := hid (HBL.out.extQ (HG18.out.mono fun q hq => by have h2 := HC14.out; have hq : w14.heap.size ≤ q := hq; show o < q; omega)); have HO18 := hid ho18; clear ho18 hg18; have f7 := HB18.out.bo.b.frozen 7; have f7 : w18.frozen? ⟨o, 7, none⟩ = false := f7; have e7 : w18.cell? ⟨o, 7, none⟩ = some (.slice AV al.length cV) := HB18.out.bo.b.cell 7)
          clear b0 b1 b2 b3 b4 b5 b6 b7 f7 e7 d0 d1 d2 d3 d4 d5
          have HB19 := hid (HB18.out.set7 (.slice A8 n8 c8))
          have hst := setO w18 o 7 (.slice A8 n8 c8)
          have HX19 := hid (up HXQ.out ((HXL.out.mono (Q' := fun q => q ≤ o ∨ w14.heap.size ≤ q) (fun q (hq : q = g) => .inl (by have := HNA.out; omega))).trans ((HG18.out.mono (Q' := fun q => q ≤ o ∨ w14.heap.size ≤ q) (fun q hq => .inr hq)).trans (hst.mono fun q (hq : q = o) => .inl (by omega)))) (fun q hq => hq.elim .inl fun e => .inr (by have := HC14.out; omega)))
          exact ⟨⟨j + 1, m, sb, al ++ [(((a1 : Int), (a2 : Int), (a3 : Int), (a4 : Int), (a5 : Int)), acc)], .slice A8 n8 c8, by go_num, by rw [List.length_append, List.length_singleton, HJL.out], by have := HJM.out; omega, HRE3.out, HSB.out, HSMA.out.snoc HKL.out, HO18.out.extQ hst (fun j (hj : j = o) => .inl (show j ≤ o by omega)) (fun j hj (hq : j ≤ o) => by have h1 := (HO18.out.lt hj).1; have h2 := HC14.out; omega), HB19.out, HX19.out, Nat.le_trans HCQ.out (Nat.le_trans HXL.out.size (Nat.le_trans HG18.out.size hst.size))⟩, by have := HJN.out; simp [intOf]; omega⟩
     · have g2 : ¬ (j : Int) < (na : Int) := by omega
       obtain rfl : m = 0 := by have := HJM.out; omega
       have HKR : RES = K2 (s2, al) := by rw [HRE.out, addL_done]; rfl
       rw [HK2.out (s2, al)] at HKR
       dsimp only at HKR
       have HSM2 := hid (show ScSm ⟨((n1 : Int), (n2 : Int), (n3 : Int), (n4 : Int)), (gl, gout), l, al⟩ from
        ⟨by have := HLI.out; dsimp only; omega, fun x hx => ⟨by have := (HSM.out x hx).1; omega, fun b hb => by have := (HSM.out x hx).2 b hb; omega⟩, by have h1 := HJL.out; have h2 := HJM.out; have h3 := HLA.out.2; dsimp only; omega, fun x hx => by have := HSMA.out x hx; omega⟩)
       have HSC := hid (show ∀ W, ExtQ (fun k => k ≤ o) wq W → ScR 2 W (.slice AU gl.length cU) (.slice AS l.length cS) (.slice AV al.length cV) ⟨((n1 : Int), (n2 : Int), (n3 : Int), (n4 : Int)), (gl, gout), l, al⟩ from fun W hW =>
        ⟨(HSTB.out W (up HXQ.out hW (fun k hk => .inl hk))).1, (HSTB.out W (up HXQ.out hW (fun k hk => .inl hk))).2, ActsR.of_rs (HOA.out.extQ hW (fun j (hj : j ≤ o) => .inl hj) (fun j hj (hq : j ≤ o) => by have h1 := (HOA.out.lt hj).1; have h2 := HC14.out; omega)).rs⟩)
       have HCK := hid (rCheck26_any 2 _ _ _ _ wq (HSC.out wq (ExtQ.refl _ _)) HSM2.out)
       obtain ⟨SC, hsc⟩ : ∃ SC : Sc, SC = ⟨((n1 : Int), (n2 : Int), (n3 : Int), (n4 : Int)), (gl, gout), l, al⟩ := ⟨_, rfl⟩
       rw [← hsc] at HKR HSC
       have HCK := hid (show Calls Tryz.prog 11 #[.agg #[.int .i64 (n1 : Nat), .int .i64 (n2 : Nat), .int .i64 (n3 : Nat), .int .i64 (n4 : Nat), .slice AU gl.length cU, .int .i64 gout, .slice AS l.length cS, .slice AV al.length cV]] wq fun e w' => e = .returned (.bool (scOk SC)) ∧ Ext wq w' from by rw [hsc]; exact HCK.out)
       have HSCE := hid (show scAg SC (.slice AU gl.length cU) (.slice AS l.length cS) (.slice AV al.length cV) = .agg #[.int .i64 (n1 : Nat), .int .i64 (n2 : Nat), .int .i64 (n3 : Nat), .int .i64 (n4 : Nat), .slice AU gl.length cU, .int .i64 gout, .slice AS l.length cS, .slice AV al.length cV] from by rw [hsc])
       obtain ⟨ok, hok⟩ : ∃ ok, ok = (!s2.bad && (s2.l.isEmpty && scOk SC)) := ⟨_, rfl⟩
       have HW := hid (show RES = if ok = true then some SC else none from by
        rw [HKR, hok]
        cases s2.bad with
        | true => simp
        | false =>
         cases h2 : s2.l with
         | nil => cases h3 : scOk SC <;> simp
         | cons x y => simp)
       have HOK := hid hok
       clear hok hsc HKR hjn HSTB HOA HK2 HRE HJM HJL
       obtain ⟨c1, f1⟩ := HDB.out.a.rd.at_
       obtain ⟨AR, cR, -, c0, -, -, -⟩ := HDB.out.a.rd.nr.open_
       obtain ⟨nl, hnl⟩ : ∃ nl, nl = s2.l.length := ⟨_, rfl⟩
       rw [← hnl] at c0
       have HEM := hid (show s2.l.isEmpty = decide (nl = 0) from by rw [hnl]; cases s2.l <;> simp)
       obtain ⟨b0, b1, b2, b3, b4, b5, b6, b7⟩ := HDB.out.bo.at_
       clear hnl
       go_upto_region 32 with fail
       go_cut [136] (fun s136 wx => s136 = .bool (!ok) ∧ Ext wq wx)
       case first =>
        cases hb : s2.bad with
        | true =>
         rw [hb] at c1
         have HB := hid (show ok = false from by rw [HOK.out, hb]; rfl)
         clear hb
         go_wp2
         go_meet
         exact ⟨by rw [HB.out]; rfl, Ext.refl _⟩
        | false =>
         rw [hb] at c1
         have hok := HOK.out
         rw [hb, HEM.out] at hok
         have HOK2 := hid hok
         clear hok
         by_cases he : nl = 0
         · have q1 : ¬ (nl : Int) > 0 := by omega
           have HQ1 := hid he
           have hck := HCK.out
           generalize scOk SC = sok at *
           have HCK := hid hck
           have HB := hid (show ok = sok from by rw [HOK2.out, decide_eq_true HQ1.out]; rfl)
           clear hb he hck
           go_wp2_with fail
           refine HCK.out.mono ?_
           rintro e w7 ⟨rfl, he7⟩
           have HE7 := hid he7
           clear he7
           go_wp2
           go_meet
           exact ⟨by rw [HB.out], HE7.out⟩
         · have q1 : (nl : Int) > 0 := by omega
           have HB := hid (show ok = false from by rw [HOK2.out, decide_eq_false he]; rfl)
           clear hb he
           go_wp2
           go_meet
           exact ⟨by rw [HB.out]; rfl, Ext.refl _⟩
       case rest =>
       obtain ⟨rfl, hxw⟩ := hcut
       rename World => w20
       have HD9 := hid (HDB.out.ext hxw)
       have HS9 := hid (show ∀ W, ExtQ (fun k => k ≤ o) w20 W → ScR 2 W (.slice AU gl.length cU) (.slice AS l.length cS) (.slice AV al.length cV) SC from fun W hW => HSC.out W ((ExtQ.of hxw).trans hW))
       clear hxw c0 c1 f1 b0 b1 b2 b3 b4 b5 b6 b7
       cases ok with
       | false =>
        have HE := hid (show RES = none from HW.out)
        obtain ⟨k0, k1, k2, k3, k4, k5, k6, k7⟩ := HD9.out.a.br.at_
        have j0 : w20.frozen? ⟨r, 0, none⟩ = false := HD9.out.a.br.b.frozen 0
        have j1 : w20.frozen? ⟨r, 1, none⟩ = false := HD9.out.a.br.b.frozen 1
        have j2 : w20.frozen? ⟨r, 2, none⟩ = false := HD9.out.a.br.b.frozen 2
        have j3 : w20.frozen? ⟨r, 3, none⟩ = false := HD9.out.a.br.b.frozen 3
        have j4 : w20.frozen? ⟨r, 4, none⟩ = false := HD9.out.a.br.b.frozen 4
        have j5 : w20.frozen? ⟨r, 5, none⟩ = false := HD9.out.a.br.b.frozen 5
        have j6 : w20.frozen? ⟨r, 6, none⟩ = false := HD9.out.a.br.b.frozen 6
        have j7 : w20.frozen? ⟨r, 7, none⟩ = false := HD9.out.a.br.b.frozen 7
        obtain ⟨hbw, hxw, hqw⟩ := @DA.fin _ _ _ _ _ _ _ HD9.out.a (.int .i64 0) (.int .i64 0) (.int .i64 0) (.int .i64 0) (.slice none 0 0) (.int .i64 0) (.slice none 0 0) (.slice none 0 0)
        have HBW := hid hbw
        have HXW := hid hxw
        have HQW := hid hqw
        clear hbw hxw hqw
        go_wp2
        generalize (((((((w20.setCell ⟨r, 0, none⟩ (.int .i64 0)).setCell ⟨r, 1, none⟩ (.int .i64 0)).setCell ⟨r, 2, none⟩ (.int .i64 0)).setCell ⟨r, 3, none⟩ (.int .i64 0)).setCell ⟨r, 4, none⟩ (.slice none 0 0)).setCell ⟨r, 5, none⟩ (.int .i64 0)).setCell ⟨r, 6, none⟩ (.slice none 0 0)).setCell ⟨r, 7, none⟩ (.slice none 0 0) = wz at *
        have y0 : wz.cell? ⟨r, 0, none⟩ = some (.int .i64 0) := HBW.out.b.cell 0
        have y1 : wz.cell? ⟨r, 1, none⟩ = some (.int .i64 0) := HBW.out.b.cell 1
        have y2 : wz.cell? ⟨r, 2, none⟩ = some (.int .i64 0) := HBW.out.b.cell 2
        have y3 : wz.cell? ⟨r, 3, none⟩ = some (.int .i64 0) := HBW.out.b.cell 3
        have y4 : wz.cell? ⟨r, 4, none⟩ = some (.slice none 0 0) := HBW.out.b.cell 4
        have y5 : wz.cell? ⟨r, 5, none⟩ = some (.int .i64 0) := HBW.out.b.cell 5
        have y6 : wz.cell? ⟨r, 6, none⟩ = some (.slice none 0 0) := HBW.out.b.cell 6
        have y7 : wz.cell? ⟨r, 7, none⟩ = some (.slice none 0 0) := HBW.out.b.cell 7
        exact bodyPost_ret (v := .tuple #[.agg #[.int .i64 0, .int .i64 0, .int .i64 0, .int .i64 0, .slice none 0 0, .int .i64 0, .slice none 0 0, .slice none 0 0], .bool false]) (by simp [results, Tryz.results15, go_sem, y0, y1, y2, y3, y4, y5, y6, y7]) rfl
         ⟨.slice none 0 0, .slice none 0 0, .slice none 0 0, by rw [HE.out]; rfl, by rw [HE.out]; exact scZ_nil _, HXW.out⟩
       | true =>
        have HE := hid (show RES = some SC from HW.out)
        obtain ⟨b0, b1, b2, b3, b4, b5, b6, b7⟩ := HD9.out.bo.at_
        obtain ⟨k0, k1, k2, k3, k4, k5, k6, k7⟩ := HD9.out.a.br.at_
        have j0 : w20.frozen? ⟨r, 0, none⟩ = false := HD9.out.a.br.b.frozen 0
        have j1 : w20.frozen? ⟨r, 1, none⟩ = false := HD9.out.a.br.b.frozen 1
        have j2 : w20.frozen? ⟨r, 2, none⟩ = false := HD9.out.a.br.b.frozen 2
        have j3 : w20.frozen? ⟨r, 3, none⟩ = false := HD9.out.a.br.b.frozen 3
        have j4 : w20.frozen? ⟨r, 4, none⟩ = false := HD9.out.a.br.b.frozen 4
        have j5 : w20.frozen? ⟨r, 5, none⟩ = false := HD9.out.a.br.b.frozen 5
        have j6 : w20.frozen? ⟨r, 6, none⟩ = false := HD9.out.a.br.b.frozen 6
        have j7 : w20.frozen? ⟨r, 7, none⟩ = false := HD9.out.a.br.b.frozen 7
        obtain ⟨hbw, hxw, hqw⟩ := @DA.fin _ _ _ _ _ _ _ HD9.out.a (.int .i64 (n1 : Nat)) (.int .i64 (n2 : Nat)) (.int .i64 (n3 : Nat)) (.int .i64 (n4 : Nat)) (.slice AU gl.length cU) (.int .i64 gout) (.slice AS l.length cS) (.slice AV al.length cV)
        have HBW := hid hbw
        have HXW := hid hxw
        have HQW := hid hqw
        clear hbw hxw hqw
        go_wp2
        generalize (((((((w20.setCell ⟨r, 0, none⟩ (.int .i64 (n1 : Nat))).setCell ⟨r, 1, none⟩ (.int .i64 (n2 : Nat))).setCell ⟨r, 2, none⟩ (.int .i64 (n3 : Nat))).setCell ⟨r, 3, none⟩ (.int .i64 (n4 : Nat))).setCell ⟨r, 4, none⟩ (.slice AU gl.length cU)).setCell ⟨r, 5, none⟩ (.int .i64 gout)).setCell ⟨r, 6, none⟩ (.slice AS l.length cS)).setCell ⟨r, 7, none⟩ (.slice AV al.length cV) = wz at *
        have y0 : wz.cell? ⟨r, 0, none⟩ = some (.int .i64 (n1 : Nat)) := HBW.out.b.cell 0
        have y1 : wz.cell? ⟨r, 1, none⟩ = some (.int .i64 (n2 : Nat)) := HBW.out.b.cell 1
        have y2 : wz.cell? ⟨r, 2, none⟩ = some (.int .i64 (n3 : Nat)) := HBW.out.b.cell 2
        have y3 : wz.cell? ⟨r, 3, none⟩ = some (.int .i64 (n4 : Nat)) := HBW.out.b.cell 3
        have y4 : wz.cell? ⟨r, 4, none⟩ = some (.slice AU gl.length cU) := HBW.out.b.cell 4
        have y5 : wz.cell? ⟨r, 5, none⟩ = some (.int .i64 gout) := HBW.out.b.cell 5
        have y6 : wz.cell? ⟨r, 6, none⟩ = some (.slice AS l.length cS) := HBW.out.b.cell 6
        have y7 : wz.cell? ⟨r, 7, none⟩ = some (.slice AV al.length cV) := HBW.out.b.cell 7
        exact bodyPost_ret (v := .tuple #[.agg #[.int .i64 (n1 : Nat), .int .i64 (n2 : Nat), .int .i64 (n3 : Nat), .int .i64 (n4 : Nat), .slice AU gl.length cU, .int .i64 gout, .slice AS l.length cS, .slice AV al.length cV], .bool true]) (by simp [results, Tryz.results15, go_sem, y0, y1, y2, y3, y4, y5, y6, y7]) rfl
         ⟨.slice AU gl.length cU, .slice AS l.length cS, .slice AV al.length cV, by rw [HE.out]; show _ = Ending.returned (.tuple #[scAg SC _ _ _, .bool true]); rw [HSCE.out], by rw [HE.out]; exact HS9.out wz (HQW.out.mono fun k (hk : k = r) => show k ≤ o by have := HGO.out; omega), HXW.out⟩
end Go.Proofs.YtpmpjjhchkoboaaGreatDoor
