/-
  GrCheck, packed: what the claim needs of them.
-/
import Derived.Test.YtdkejfjcchlnpaaGreatFn13
set_option maxHeartbeats 40000000
open Go.Lib (hid)
set_option linter.unusedSimpArgs false
set_option linter.unusedVariables false
set_option maxRecDepth 100000
namespace Go.Ox.Gr
def a8w (loop : Int) (lb : Bool) (n : Nd) (i : Nat) : Bool := base n i && (b1m n && (a2z n loop && (if n.op = 9 then lb else n.body.isEmpty)))
theorem b1O (loop : Nat) (lb : Bool) (n : Nd) (i : Nat) : a8w loop lb n i = b4H loop n i := by
 unfold a8w b4H
 by_cases h : n.op = 9
 · have e : a2z n loop = false := by
    unfold a2z;rw [if_neg (by omega), if_pos h, decide_eq_false (by omega), Bool.false_and]
   rw [e]; simp
 rw [if_neg h]
end Go.Ox.Gr
namespace Go.Proofs.YtdkejfjcchlnpaaGreat
open Go.RowKit Go.Ox Go.Ox.Gr
attribute [local irreducible] RE a00
def ahB (i a : Int) : Bool := decide (0 ≤ i) && decide (i < a)
theorem a43 (i a : Int) (p : Nat) (w : World) (hc : w.cell? ⟨p, 0, none⟩ = some (.int .i64 a)) :
 Calls Tryz.prog 161 #[.int .i64 i, .pointer (some ⟨p, 0, none⟩)] w fun e w' => e = .returned (.bool (ahB i a)) ∧ w = w' := by
 unfold ahB
 by_cases h : 0 ≤ i
 · rw [decide_eq_true h, Bool.true_and]
   go_enter Tryz.func161, Tryz.ntmps161
   go_wp2
   go_ret
   exact ⟨rfl, rfl⟩
 rw [decide_eq_false h, Bool.false_and]
 go_enter Tryz.func161, Tryz.ntmps161
 go_wp2
 go_ret
 exact ⟨rfl, rfl⟩
theorem a6m (i a : Int) (p q : Nat) (w : World) (hc : w.cell? ⟨p, 0, none⟩ = some (.int .i64 a)) (hf : w.cell? ⟨q, 0, none⟩ = some (.func (.func 161) #[] #[.pointer (some ⟨p, 0, none⟩)])) :
 Calls Tryz.prog 163 #[.int .i64 i, .pointer (some ⟨q, 0, none⟩)] w fun e w' => e = .returned (.bool (!ahB i a)) ∧ Ext w w' := by
 have HA := hid (a43 i a p w hc);clear hc;generalize ahB i a = x at *
 go_enter Tryz.func163, Tryz.ntmps163
 go_wp2_with fail
 refine HA.o.mono ?_;rintro e w1 ⟨rfl, rfl⟩
 go_wp2
 go_ret
 exact ⟨rfl, Ext.refl _⟩
theorem a9G (ins : List Int) (i : Nat) : b1x ins i = !anyI (fun x => !ahB x i) ins := by
 unfold b1x anyI ahB;rw [List.not_any_eq_all_not];simp
theorem a7L (op kind fa a loop : Int) (u b : Value) (ins : List Int) (body : List Nd) (d at_ : Nat) (lb : Bool) (w : World) (hl : loop = -1 ∨ 0 ≤ loop) (hu : RE w u ins) (hb : a00 d w b body)
 (hli : op = 9 → a1L op a loop = true → ∀ W, Ext w W → Calls Tryz.prog 98 #[b, .int .i64 (at_ : Int)] W fun e W' => e = .returned (.bool lb) ∧ Ext W W') :
 Calls Tryz.prog 134 #[a1C op kind fa a u b, .int .i64 (at_ : Int), .int .i64 loop] w fun e w' => e = .returned (.bool (a8w loop lb (.mk op ins kind fa a body) at_)) ∧ Ext w w' := by
 have HR := hid (show a8w loop lb (.mk op ins kind fa a body) at_ = ((b2K op && (decide ((ins.length : Int) = arity op) && !anyI (fun x => !ahB x at_) ins)) && (fnB (b1l op) kind fa && (a1L op a loop && (if op = 9 then lb else body.isEmpty)))) by
  unfold a8w base
  rw [a9G, fnB_eq, b3p]; rfl)
 have HAR := hid (a4b op);have HNE := hid (fun w => a9F op w)
 have HFU := hid (fun w => a6l op kind fa a (b1l op) u b w)
 have HNU := hid (fun w => a8v op kind fa a loop u b w hl)
 have eg2 : ∀ args w, (callFunc 163 args).run Tryz.prog w = .ok (.enter 163 args) w := enters_of Tryz.func163 (by kernel_rfl) rfl
 have HCO := hid (fun (q p : Nat) (W : World) (h0 : RE W u ins) (hl : ins.length ≤ 1000000000) (hc : W.cell? ⟨p, 0, none⟩ = some (.int .i64 (at_ : Int))) (hf : W.cell? ⟨q, 0, none⟩ = some (.func (.func 161) #[] #[.pointer (some ⟨p, 0, none⟩)])) =>
  a5F (fun x => !ahB x at_) 163 #[.pointer (some ⟨q, 0, none⟩)] eg2 u ins W h0 hl (fun x W' he => a6m x at_ p q W' (he.cell hc) (he.cell hf)))
 have HLI := hid hli;have HX0 := hid (((Ext.refl w).alloc (a0i op kind fa a u b)).alloc (.cells #[.int .i64 (at_ : Int)] 3));have HB0 := hid ((Bx6.new w 101 (.int .i64 op) u (.int .i64 kind) (.int .i64 fa) (.int .i64 a) b).ext ((Ext.refl _).alloc (.cells #[.int .i64 (at_ : Int)] 3)));have HA0 := hid (Blk.new (w.alloc (a0i op kind fa a u b)) 3 #[.int .i64 (at_ : Int)]);have HU := hid hu;have HB := hid hb;obtain ⟨Au, cu, rfl⟩ := hu.form;obtain ⟨Ab, cb, rfl⟩ := hb.form;clear hu hb hli eg2 hl;generalize a8w loop lb (.mk op ins kind fa a body) at_ = R at *;generalize arity op = ar at *;generalize b1l op = fm at *;generalize b2K op = ok at *;generalize fnB fm kind fa = fb at *;generalize anyI (fun x => !ahB x at_) ins = an at *
 generalize hnb : a1L op a loop = nb at *;have HNB := hid hnb;clear hnb
 go_enter Tryz.func134, Tryz.ntmps134
 go_upto_region 1 with fail
 obtain ⟨p, hp⟩ : ∃ p, p = w.heap.size := ⟨_, rfl⟩;have hq : (w.alloc (a0i op kind fa a (.slice Au ins.length cu) (.slice Ab body.length cb))).heap.size = p + 1 := by rw [hp]; simp
 rw [hq] at HA0;rw [← hp] at HB0 ⊢;clear hp hq;generalize (w.alloc (a0i op kind fa a (.slice Au ins.length cu) (.slice Ab body.length cb))).alloc (.cells #[.int .i64 (at_ : Int)] 3) = w0 at *;obtain ⟨c0, c1, c2, c3, c4, c5⟩ := HB0.o.at_
 go_wp2_with fail
 refine (HNE.o _).mono ?_;rintro e w1 ⟨rfl, he1⟩;clear c0 c1 c2 c3 c4 c5;have hx2 := ((Ext.refl w1).alloc (.cells #[.int .i64 ar, .int .i64 fm] 216)).alloc (.cells #[.func (.func 161) #[] #[.pointer (some ⟨p + 1, 0, none⟩)]] 179);have HX2 := hid ((HX0.o.trans he1).trans hx2);have HB2 := hid ((HB0.o.ext he1).ext hx2);have HA2 := hid ((HA0.o.ext he1).ext hx2);have HN2 := hid ((Blk.new w1 216 #[.int .i64 ar, .int .i64 fm]).ext ((Ext.refl _).alloc (.cells #[.func (.func 161) #[] #[.pointer (some ⟨p + 1, 0, none⟩)]] 179)));have HF2 := hid (Blk.new (w1.alloc (.cells #[.int .i64 ar, .int .i64 fm] 216)) 179 #[.func (.func 161) #[] #[.pointer (some ⟨p + 1, 0, none⟩)]]);obtain ⟨q, hq⟩ : ∃ q, q = w1.heap.size := ⟨_, rfl⟩;have hq2 : (w1.alloc (.cells #[.int .i64 ar, .int .i64 fm] 216)).heap.size = q + 1 := by rw [hq]; simp
 rw [hq2] at HF2;clear hx2;have hsf : ∀ (a : Addr) (g : Fn) (pre cap : Array Value) (w' : World), (store a (.func g pre cap)).run Tryz.prog w' = stored Tryz.prog w' a (.func g pre cap) .plain := fun a g pre cap w' => run_store Tryz.prog w' a _ _ rfl
 go_upto_region 3 with fail
 clear hsf
 try rw [← hq]
 rw [← hq] at HN2
 try rw [hq2]
 clear hq hq2 he1 HB0 HA0 HX0;generalize (w1.alloc (.cells #[.int .i64 ar, .int .i64 fm] 216)).alloc (.cells #[.func (.func 161) #[] #[.pointer (some ⟨p + 1, 0, none⟩)]] 179) = w2 at *;obtain ⟨c0, c1, c2, c3, c4, c5⟩ := HB2.o.at_;have y0 := HN2.o.c0;have y1 := HN2.o.c1
 cases ok with
 | false =>
  have HE := hid (show R = false by rw [HR.o]; rfl)
  go_wp2
  go_ret
  exact ⟨by rw [HE.o]; rfl, HX2.o⟩
 | true =>
 by_cases hlen : (ins.length : Int) = ar
 · have HIL := hid (show ins.length ≤ 1000000000 by have := HAR.o; omega)
   rw [decide_eq_true hlen] at HR;have hbn : ((ins.length : Int) != ar) = false := by simpa using hlen
   clear hlen
   go_wp2_with fail
   refine (HCO.o (q + 1) (p + 1) _ (HU.o.ext HX2.o) HIL.o (HA2.o.cell 0) (HF2.o.cell 0)).mono ?_;rintro e w3 ⟨rfl, he3⟩;have HX3 := hid (HX2.o.trans he3);have HB3 := hid (HB2.o.ext he3);have HA3 := hid (HA2.o.ext he3);have y1 := he3.cell y1;clear he3 c0 c1 c2 c3 c4 c5 y0 HB2 HA2;obtain ⟨c0, c1, c2, c3, c4, c5⟩ := HB3.o.at_
   cases an with
   | true =>
    have HE := hid (show R = false by rw [HR.o]; rfl)
    go_wp2
    go_ret
    exact ⟨by rw [HE.o]; rfl, HX3.o⟩
   | false =>
   go_wp2_with fail
   refine (HFU.o _).mono ?_;rintro e w4 ⟨rfl, he4⟩;have HX4 := hid (HX3.o.trans he4);have HB4 := hid (HB3.o.ext he4);have HA4 := hid (HA3.o.ext he4);clear he4 c0 c1 c2 c3 c4 c5 y1 HB3 HA3;obtain ⟨c0, c1, c2, c3, c4, c5⟩ := HB4.o.at_
   cases fb with
   | false =>
    have HE := hid (show R = false by rw [HR.o]; rfl)
    go_wp2
    go_ret
    exact ⟨by rw [HE.o]; rfl, HX4.o⟩
   | true =>
   go_wp2_with fail
   refine (HNU.o _).mono ?_;rintro e w5 ⟨rfl, he5⟩;have HX5 := hid (HX4.o.trans he5);have HB5 := hid (HB4.o.ext he5);have HA5 := hid (HA4.o.ext he5);clear he5 c0 c1 c2 c3 c4 c5 HB4 HA4;obtain ⟨c0, c1, c2, c3, c4, c5⟩ := HB5.o.at_
   cases nb with
   | false =>
    have HE := hid (show R = false by rw [HR.o]; rfl)
    go_wp2
    go_ret
    exact ⟨by rw [HE.o]; rfl, HX5.o⟩
   | true =>
   by_cases h9 : op = 9
   · have HE := hid (show R = lb by rw [HR.o, if_pos h9]; rfl)
     have HL := hid (HLI.o h9 rfl _ HX5.o);have y0 := HA5.o.c0;subst h9
     go_wp2_with fail
     refine HL.o.mono ?_;rintro e w6 ⟨rfl, he6⟩
     go_wp2
     go_ret
     exact ⟨by rw [HE.o]; rfl, HX5.o.trans he6⟩
   have HE := hid (show R = body.isEmpty by rw [HR.o, if_neg h9]; rfl)
   have hb9 : (op != 9) = true := by simpa using h9
   cases body with
   | nil =>
    go_wp2
    go_ret
    exact ⟨by rw [HE.o]; rfl, HX5.o⟩
   | cons x l =>
   have hb0 : (((x :: l).length : Int) == 0) = false := by simp; omega
   generalize (x :: l).length = n9 at *
   go_wp2
   go_ret
   exact ⟨by rw [HE.o]; simp, HX5.o⟩
 have HE := hid (show R = false by rw [HR.o, decide_eq_false hlen]; rfl)
 have hbn : ((ins.length : Int) != ar) = true := by simpa using hlen
 clear hlen
 go_wp2
 go_ret
 exact ⟨by rw [HE.o]; rfl, HX2.o⟩
theorem a7M (loop : Int) (f : Nd → Nat → Bool) (d : Nat) (v : Value) (l : List Nd) (w : World) (hv : a00 d w v l)
 (hn : ∀ (i : Nat) (hi : i < l.length) (u b : Value) (W : World), RE W u l[i].ins → a00 (d - 1) W b l[i].body → l.length ≤ 32 →
  Calls Tryz.prog 134 #[a1C l[i].op l[i].kind l[i].fa l[i].a u b, .int .i64 (i : Int), .int .i64 loop] W fun e W' => e = .returned (.bool (f l[i] i)) ∧ Ext W W') :
 Calls Tryz.prog 98 #[v, .int .i64 loop] w fun e w' => e = .returned (.bool (decide (1 ≤ l.length) && (decide (l.length ≤ 32) && each f l 0))) ∧ Ext w w' := by
 obtain ⟨A, c, rfl⟩ := hv.form;have HV := hid hv;have HN := hid hn;clear hv hn
 by_cases h1 : 1 ≤ l.length
 · by_cases h2 : l.length ≤ 32
   · rw [decide_eq_true h1, decide_eq_true h2, Bool.true_and, Bool.true_and]
     have g1 : ¬ (l.length : Int) < 1 := by omega
     have g2 : ¬ (32 : Int) < (l.length : Int) := by omega
     have H2 := hid h2;clear h1 h2
     go_enter Tryz.func98, Tryz.ntmps98
     go_wp2
     go_loopw [17] (fun iv wr => ∃ k : Nat, k ≤ l.length ∧ iv = .int .i64 (k : Int) ∧ each f (l.take k) 0 = true ∧ Ext w wr) (fun iv _ => l.length - (intOf iv).toNat)
     case atStart => exact ⟨0, Nat.zero_le _, rfl, rfl, Ext.refl _⟩
     case round =>
     obtain ⟨k, hk, rfl, hp, hext⟩ := hrel;have HP := hid hp;have HE := hid hext;clear hp
     by_cases hlt : k < l.length
     · have q1 : (k : Int) < (l.length : Int) := by omega
       have q0 : 0 ≤ (k : Int) := by omega
       have q1n : k < l.length := hlt;have HLT := hid hlt;have hk32 : k ≤ 32 := by have := H2.o; omega
       obtain ⟨bA, oA, u, bv, rfl, c0, c1, c2, c3, c4, c5, hu, hbv⟩ := (HV.o.ext hext).at_ hlt;have HS := hid (b2L f l hlt);have HNO := hid (b3m f l hlt);have HNX := hid (fun W he => HN.o k hlt u bv W (RE.ext hu he) (hbv.ext he) H2.o)
       generalize l[k] = x at *;obtain ⟨op, ins, kind, fa, a, body⟩ := x;simp only [Nd.op, Nd.kind, Nd.fa, Nd.a, Nd.ins, Nd.body] at c0 c1 c2 c3 c4 c5 hu hbv HNX;obtain ⟨Au, cu, rfl⟩ := hu.form;obtain ⟨Ab, cb, rfl⟩ := hbv.form;have hxn := (Ext.refl wr).alloc (a0i op kind fa a (.slice Au ins.length cu) (.slice Ab body.length cb));have HXN := hid hxn;have HXE := hid (hext.trans hxn);have HC := hid (HNX.o _ hxn);obtain ⟨y0, y1, y2, y3, y4, y5⟩ := (Bx6.new wr 101 (.int .i64 op) (.slice Au ins.length cu) (.int .i64 kind) (.int .i64 fa) (.int .i64 a) (.slice Ab body.length cb)).at_;clear hext hlt hk hxn hu hbv;rw [HP.o, Bool.true_and] at HS;generalize f (.mk op ins kind fa a body) k = r at *
       go_upto_region 6 with fail
       clear c0 c1 c2 c3 c4 c5
       go_wp2_with fail
       refine HC.o.mono ?_;rintro e w2 ⟨rfl, he2⟩;have HX2 := hid (HXE.o.trans he2);clear he2 y0 y1 y2 y3 y4 y5
       cases r with
       | true =>
        go_wp2
        exact ⟨⟨k + 1, HLT.o, by go_num, HS.o, HX2.o⟩, by have := HLT.o; simp [intOf]; omega⟩
       | false =>
       have HF := hid (HNO.o rfl)
       go_wp2
       go_ret
       exact ⟨by rw [HF.o]; rfl, HX2.o⟩
     obtain rfl : k = l.length := by omega
     have q1 : ¬ (l.length : Int) < (l.length : Int) := by omega
     rw [List.take_length] at HP;clear hext
     go_wp2
     go_ret
     exact ⟨by rw [HP.o]; rfl, HE.o⟩
   rw [decide_eq_false h2, Bool.false_and, Bool.and_false];have g1 : ¬ (l.length : Int) < 1 := by omega
   have g2 : (32 : Int) < (l.length : Int) := by omega
   clear h1 h2
   go_enter Tryz.func98, Tryz.ntmps98
   go_wp2
   go_ret
   exact ⟨rfl, Ext.refl _⟩
 rw [decide_eq_false h1, Bool.false_and];have g1 : (l.length : Int) < 1 := by omega
 clear h1
 go_enter Tryz.func98, Tryz.ntmps98
 go_wp2
 go_ret
 exact ⟨rfl, Ext.refl _⟩
theorem a8x (loop : Nat) (d : Nat) (v : Value) (l : List Nd) (w : World) (hv : a00 d w v l) :
 Calls Tryz.prog 98 #[v, .int .i64 (loop : Int)] w fun e w' => e = .returned (.bool (a2K l loop)) ∧ Ext w w' := by
 refine a7M (loop : Int) (b4H loop) d v l w hv fun i hi u b W hu hb _ => ?_
 have h := a7L l[i].op l[i].kind l[i].fa l[i].a (loop : Int) u b l[i].ins l[i].body (d - 1) i false W (.inr (by omega)) hu hb (fun h9 hn => by
  rw [h9] at hn;unfold a1L at hn;rw [if_neg (by omega), if_pos rfl, decide_eq_false (by omega), Bool.false_and] at hn
  cases hn)
 rw [b1O] at h
 cases hx : l[i] with
 | mk op ins kind fa a body => rw [hx] at h; exact h
theorem a6W (d : Nat) (v : Value) (l : List Nd) (w : World) (hv : a00 d w v l) :
 Calls Tryz.prog 98 #[v, .int .i64 (-1)] w fun e w' => e = .returned (.bool (a2L l)) ∧ Ext w w' := by
 refine a7M (-1) a9v d v l w hv fun i hi u b W hu hb _ => ?_
 have h := a7L l[i].op l[i].kind l[i].fa l[i].a (-1) u b l[i].ins l[i].body (d - 1) i (a2K l[i].body i) W (.inl rfl) hu hb (fun _ _ W' he => a8x i (d - 1) b l[i].body W' (hb.ext he))
 cases hx : l[i] with
 | mk op ins kind fa a body => rw [hx] at h; exact h
end Go.Proofs.YtdkejfjcchlnpaaGreat
namespace Go.Proofs.YtdkejfjcchlnpaaGreat
open Go.RowKit Go.Ox Go.Ox.Gr
attribute [local irreducible] RE a00
abbrev gAg (v : Value) (out : Int) : Value := .agg #[v, .int .i64 out]
abbrev gCs (v : Value) (out : Int) : Obj := .cells #[v, .int .i64 out] 24
theorem a9H (d : Nat) (v : Value) (l : List Nd) (out : Int) (w : World) (hv : a00 d w v l) (hl : l.length ≤ 1000000) :
 Calls Tryz.prog 99 #[gAg v out] w fun e w' => e = .returned (.int .i64 (loops l : Int)) ∧ Ext w w' := by
 obtain ⟨A, c, rfl⟩ := hv.form;have HX0 := hid ((Ext.refl w).alloc (gCs (.slice A l.length c) out));have HB0 := hid (Blk.new w 24 #[.slice A l.length c, .int .i64 out]);have HV := hid (hv.ext HX0.o);clear hv
 go_enter Tryz.func99, Tryz.ntmps99
 go_upto_region 1 with fail
 generalize w.heap.size = p at *;generalize w.alloc (gCs (.slice A l.length c) out) = w0 at *;have c0 := HB0.o.c0
 go_wp2
 clear c0
 go_loopw [3, 9] (fun o iv wr => ∃ k : Nat, k ≤ l.length ∧ iv = .int .i64 (k : Int) ∧ o = .int .i64 (loops (l.take k) : Int) ∧ Ext w0 wr) (fun _ iv _ => l.length - (intOf iv).toNat)
 case atStart => exact ⟨0, Nat.zero_le _, rfl, rfl, Ext.refl _⟩
 case round =>
 obtain ⟨k, hk, rfl, rfl, hext⟩ := hrel;have HE := hid hext;have hll := b1y l k
 by_cases hlt : k < l.length
 · have q1 : (k : Int) < (l.length : Int) := by omega
   have q0 : 0 ≤ (k : Int) := by omega
   have q1n : k < l.length := hlt;have HLT := hid hlt;obtain ⟨bA, oA, u, bv, rfl, c0, c1, c2, c3, c4, c5, hu, hbv⟩ := (HV.o.ext hext).at_ hlt;have HS := hid (b3n l hlt);obtain ⟨n, hn⟩ : ∃ n, n = loops (l.take k) := ⟨_, rfl⟩;rw [← hn] at HS hll ⊢;have HN := hid hn;generalize l[k] = x at *;obtain ⟨op, ins, kind, fa, a, body⟩ := x;simp only [Nd.op, Nd.kind, Nd.fa, Nd.a, Nd.ins, Nd.body] at c0 c1 c2 c3 c4 c5 hu hbv;replace HS := hid (show loops (l.take (k + 1)) = n + (if op = 9 then 1 else 0) from HS.o)
   obtain ⟨Au, cu, rfl⟩ := hu.form;obtain ⟨Ab, cb, rfl⟩ := hbv.form;have hxn := (Ext.refl wr).alloc (a0i op kind fa a (.slice Au ins.length cu) (.slice Ab body.length cb));have HXE := hid (hext.trans hxn);obtain ⟨y0, y1, y2, y3, y4, y5⟩ := (Bx6.new wr 101 (.int .i64 op) (.slice Au ins.length cu) (.int .i64 kind) (.int .i64 fa) (.int .i64 a) (.slice Ab body.length cb)).at_;clear hext hlt hk hxn hu hbv hn
   by_cases h9 : op = 9
   · rw [if_pos h9] at HS
     subst h9
     go_wp2
     exact ⟨⟨k + 1, HLT.o, by go_num, by rw [HS.o]; go_num, HXE.o⟩, by have := HLT.o; simp [intOf]; omega⟩
   rw [if_neg h9] at HS
   go_wp2
   exact ⟨⟨k + 1, HLT.o, by go_num, by rw [HS.o]; rfl, HXE.o⟩, by have := HLT.o; simp [intOf]; omega⟩
 obtain rfl : k = l.length := by omega
 have q1 : ¬ (l.length : Int) < (l.length : Int) := by omega
 rw [List.take_length];clear hext hll;generalize hn : loops l = n at *;have HN := hid hn;clear hn
 go_wp2
 go_ret
 exact ⟨by rw [HN.o]; rfl, HX0.o.trans HE.o⟩
def gE (g : G) : Int := if gOk g = true then 0 else 170
theorem a0C (d : Nat) (v : Value) (l : List Nd) (out : Int) (w : World) (hv : a00 d w v l) :
 Calls Tryz.prog 67 #[gAg v out] w fun e w' => e = .returned (.int .i64 (gE (l, out))) ∧ Ext w w' := by
 obtain ⟨A, c, rfl⟩ := hv.form;have HX0 := hid ((Ext.refl w).alloc (gCs (.slice A l.length c) out));have HB0 := hid (Blk.new w 24 #[.slice A l.length c, .int .i64 out]);have HV := hid (hv.ext HX0.o);have HLI := hid (fun w h => a6W d (.slice A l.length c) l w h)
 have HLO := hid (fun w h hl => a9H d (.slice A l.length c) l out w h hl)
 have HG := hid (show gE (l, out) = if (a2L l && (decide (0 ≤ out) && (decide (out < (l.length : Int)) && decide (loops l ≤ 1)))) = true then 0 else 170 from rfl)
 have H32 := hid (show a2L l = true → l.length ≤ 1000000 from fun h => by
  unfold a2L at h;rw [Bool.and_eq_true, Bool.and_eq_true, decide_eq_true_eq, decide_eq_true_eq] at h
  omega)
 generalize gE (l, out) = E at *;generalize a2L l = lk at *;generalize loops l = lp at *;clear hv
 go_enter Tryz.func67, Tryz.ntmps67
 go_upto_region 1 with fail
 generalize w.heap.size = p at *;generalize w.alloc (gCs (.slice A l.length c) out) = w0 at *;have c0 := HB0.o.c0
 go_wp2_with fail
 refine (HLI.o _ HV.o).mono ?_;rintro e w1 ⟨rfl, he1⟩;have HX1 := hid (HX0.o.trans he1);have HB1 := hid (HB0.o.ext he1);have HV1 := hid (HV.o.ext he1);clear he1 c0;have c0 := HB1.o.c0;have c1 := HB1.o.c1
 cases lk with
 | false =>
  have HE := hid (show E = 170 by rw [HG.o]; rfl)
  go_wp2_with fail
  go_ret
  exact ⟨by rw [HE.o]; rfl, HX1.o⟩
 | true =>
 have H32b := hid (H32.o rfl)
 by_cases h0 : out < 0
 · have HE := hid (show E = 170 by rw [HG.o, decide_eq_false (show ¬ 0 ≤ out by omega)]; rfl)
   go_wp2_with fail
   go_ret
   exact ⟨by rw [HE.o]; rfl, HX1.o⟩
 by_cases h1 : (l.length : Int) ≤ out
 · have HE := hid (show E = 170 by rw [HG.o, decide_eq_false (show ¬ out < (l.length : Int) by omega)]; simp)
   go_wp2_with fail
   go_ret
   exact ⟨by rw [HE.o]; rfl, HX1.o⟩
 rw [decide_eq_true (show 0 ≤ out by omega), decide_eq_true (show out < (l.length : Int) by omega)] at HG
 go_wp2_with fail
 refine (HLO.o _ HV1.o H32b.o).mono ?_;rintro e w2 ⟨rfl, he2⟩;have HX2 := hid (HX1.o.trans he2);clear he2 c0 c1
 by_cases h2 : lp ≤ 1
 · have HE := hid (show E = 0 by rw [HG.o, decide_eq_true h2]; rfl)
   have q : ¬ (1 : Int) < (lp : Int) := by omega
   clear h2
   go_wp2
   go_ret
   exact ⟨by rw [HE.o]; rfl, HX2.o⟩
 have HE := hid (show E = 170 by rw [HG.o, decide_eq_false h2]; rfl)
 have q : (1 : Int) < (lp : Int) := by omega
 clear h2
 go_wp2
 go_ret
 exact ⟨by rw [HE.o]; rfl, HX2.o⟩
end Go.Proofs.YtdkejfjcchlnpaaGreat
