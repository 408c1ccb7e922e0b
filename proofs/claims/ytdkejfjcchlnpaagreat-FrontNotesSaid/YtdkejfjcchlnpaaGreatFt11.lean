/-
  GrCheck, GrPlaces, Copy, packed: what the claim needs of them.
-/
import Derived.Test.YtdkejfjcchlnpaaGreatFt10
set_option maxHeartbeats 40000000
open Go.Lib (hid)
set_option linter.unusedSimpArgs false
set_option linter.unusedVariables false
set_option maxRecDepth 100000
namespace Go.Ox.Gr
def a1D (loop : Int) (lb : Bool) (n : Nd) (i : Nat) : Bool := base n i && (b3G n && (a2J n loop && (if n.op = 9 then lb else n.body.isEmpty)))
theorem b1M (n : Nd) (i : Nat) : a1D (-1) (a2k n.body i) n i = a5i n i := rfl
theorem a9x (loop : Nat) (lb : Bool) (n : Nd) (i : Nat) : a1D loop lb n i = b3H loop n i := by
 unfold a1D b3H
 by_cases h : n.op = 9
 . have e : a2J n loop = false := by
    unfold a2J;rw [if_neg (by omega), if_pos h, decide_eq_false (by omega), Bool.false_and]
   rw [e]; simp
 rw [if_neg h]
end Go.Ox.Gr
namespace Go.Proofs.YtdkejfjcchlnpaaGreat
open Go.RowKit Go.Ox Go.Ox.Gr
attribute [local irreducible] RE a00
def ahB (i a : Int) : Bool := decide (0 <= i) && decide (i < a)
theorem a5d (i a : Int) (p : Nat) (w : World) (hc : w.cell? ⟨p, 0, none⟩ = some (.int .i64 a)) :
 Calls Tryz.prog 161 #[.int .i64 i, .pointer (some ⟨p, 0, none⟩)] w fun e w' => e = .returned (.bool (ahB i a)) ∧ w = w' := by
 unfold ahB
 by_cases h : 0 <= i
 . rw [decide_eq_true h, Bool.true_and]
   go_enter Tryz.func161, Tryz.ntmps161
   go_wp2
   go_ret
   exact ⟨rfl, rfl⟩
 rw [decide_eq_false h, Bool.false_and]
 go_enter Tryz.func161, Tryz.ntmps161
 go_wp2
 go_ret
 exact ⟨rfl, rfl⟩
theorem a7K (i a : Int) (p q : Nat) (w : World) (hc : w.cell? ⟨p, 0, none⟩ = some (.int .i64 a)) (hf : w.cell? ⟨q, 0, none⟩ = some (.func (.func 161) #[] #[.pointer (some ⟨p, 0, none⟩)])) :
 Calls Tryz.prog 163 #[.int .i64 i, .pointer (some ⟨q, 0, none⟩)] w fun e w' => e = .returned (.bool (!ahB i a)) ∧ Ext w w' := by
 have HA := hid (a5d i a p w hc);clear hc;generalize ahB i a = x at *
 go_enter Tryz.func163, Tryz.ntmps163
 go_wp2_with fail
 refine HA.o.mono ?_;rintro e w1 ⟨rfl, rfl⟩
 go_wp2
 go_ret
 exact ⟨rfl, Ext.refl _⟩
theorem b1N (ins : List Int) (i : Nat) : a2j ins i = !anyI (fun x => !ahB x i) ins := by
 unfold a2j anyI ahB;rw [List.not_any_eq_all_not];simp
theorem a9y (op kind fa a loop : Int) (u b : Value) (ins : List Int) (body : List Nd) (d at_ : Nat) (lb : Bool) (w : World) (hl : loop = -1 ∨ 0 <= loop) (hu : RE w u ins) (hb : a00 d w b body)
 (hli : op = 9 -> a0K op a loop = true -> ∀ W, Ext w W -> Calls Tryz.prog 98 #[b, .int .i64 (at_ : Int)] W fun e W' => e = .returned (.bool lb) ∧ Ext W W') :
 Calls Tryz.prog 134 #[a1e op kind fa a u b, .int .i64 (at_ : Int), .int .i64 loop] w fun e w' => e = .returned (.bool (a1D loop lb (.mk op ins kind fa a body) at_)) ∧ Ext w w' := by
 have HR := hid (show a1D loop lb (.mk op ins kind fa a body) at_ = ((a5N op && (decide ((ins.length : Int) = arity op) && !anyI (fun x => !ahB x at_) ins)) && (fnB (a2I op) kind fa && (a0K op a loop && (if op = 9 then lb else body.isEmpty)))) by
  unfold a1D base
  rw [b1N, a7I, a5j]; rfl)
 have HAR := hid (a1P op);have HNE := hid (fun w => b1L op w)
 have HFU := hid (fun w => a7J op kind fa a (a2I op) u b w)
 have HNU := hid (fun w => b0u op kind fa a loop u b w hl)
 have eg2 : ∀ args w, (callFunc 163 args).run Tryz.prog w = .ok (.enter 163 args) w := enters_of Tryz.func163 (by kernel_rfl) rfl
 have HCO := hid (fun (q p : Nat) (W : World) (h0 : RE W u ins) (hl : ins.length <= 1000000000) (hc : W.cell? ⟨p, 0, none⟩ = some (.int .i64 (at_ : Int))) (hf : W.cell? ⟨q, 0, none⟩ = some (.func (.func 161) #[] #[.pointer (some ⟨p, 0, none⟩)])) =>
  a6U (fun x => !ahB x at_) 163 #[.pointer (some ⟨q, 0, none⟩)] eg2 u ins W h0 hl (fun x W' he => a7K x at_ p q W' (he.cell hc) (he.cell hf)))
 have HLI := hid hli;have HX0 := hid (((Ext.refl w).alloc (a0m op kind fa a u b)).alloc (.cells #[.int .i64 (at_ : Int)] 3));have HB0 := hid ((Bx6.new w 101 (.int .i64 op) u (.int .i64 kind) (.int .i64 fa) (.int .i64 a) b).ext ((Ext.refl _).alloc (.cells #[.int .i64 (at_ : Int)] 3)));have HA0 := hid (Blk.new (w.alloc (a0m op kind fa a u b)) 3 #[.int .i64 (at_ : Int)]);have HU := hid hu;have HB := hid hb;obtain ⟨Au, cu, rfl⟩ := hu.form;obtain ⟨Ab, cb, rfl⟩ := hb.form;clear hu hb hli eg2 hl;generalize a1D loop lb (.mk op ins kind fa a body) at_ = R at *;generalize arity op = ar at *;generalize a2I op = fm at *;generalize a5N op = ok at *;generalize fnB fm kind fa = fb at *;generalize anyI (fun x => !ahB x at_) ins = an at *
 generalize hnb : a0K op a loop = nb at *;have HNB := hid hnb;clear hnb
 go_enter Tryz.func134, Tryz.ntmps134
 go_upto_region 1 with fail
 obtain ⟨p, hp⟩ : ∃ p, p = w.heap.size := ⟨_, rfl⟩;have hq : (w.alloc (a0m op kind fa a (.slice Au ins.length cu) (.slice Ab body.length cb))).heap.size = p + 1 := by rw [hp]; simp
 rw [hq] at HA0;rw [<- hp] at HB0 ⊢;clear hp hq;generalize (w.alloc (a0m op kind fa a (.slice Au ins.length cu) (.slice Ab body.length cb))).alloc (.cells #[.int .i64 (at_ : Int)] 3) = w0 at *;obtain ⟨c0, c1, c2, c3, c4, c5⟩ := HB0.o.at_
 go_wp2_with fail
 refine (HNE.o _).mono ?_;rintro e w1 ⟨rfl, he1⟩;clear c0 c1 c2 c3 c4 c5;have hx2 := ((Ext.refl w1).alloc (.cells #[.int .i64 ar, .int .i64 fm] 216)).alloc (.cells #[.func (.func 161) #[] #[.pointer (some ⟨p + 1, 0, none⟩)]] 179);have HX2 := hid ((HX0.o.trans he1).trans hx2);have HB2 := hid ((HB0.o.ext he1).ext hx2);have HA2 := hid ((HA0.o.ext he1).ext hx2);have HN2 := hid ((Blk.new w1 216 #[.int .i64 ar, .int .i64 fm]).ext ((Ext.refl _).alloc (.cells #[.func (.func 161) #[] #[.pointer (some ⟨p + 1, 0, none⟩)]] 179)));have HF2 := hid (Blk.new (w1.alloc (.cells #[.int .i64 ar, .int .i64 fm] 216)) 179 #[.func (.func 161) #[] #[.pointer (some ⟨p + 1, 0, none⟩)]]);obtain ⟨q, hq⟩ : ∃ q, q = w1.heap.size := ⟨_, rfl⟩;have hq2 : (w1.alloc (.cells #[.int .i64 ar, .int .i64 fm] 216)).heap.size = q + 1 := by rw [hq]; simp
 rw [hq2] at HF2;clear hx2;have hsf : ∀ (a : Addr) (g : Fn) (pre cap : Array Value) (w' : World), (store a (.func g pre cap)).run Tryz.prog w' = stored Tryz.prog w' a (.func g pre cap) .plain := fun a g pre cap w' => run_store Tryz.prog w' a _ _ rfl
 go_upto_region 3 with fail
 clear hsf
 try rw [<- hq]
 rw [<- hq] at HN2
 try rw [hq2]
 clear hq hq2 he1 HB0 HA0 HX0;generalize (w1.alloc (.cells #[.int .i64 ar, .int .i64 fm] 216)).alloc (.cells #[.func (.func 161) #[] #[.pointer (some ⟨p + 1, 0, none⟩)]] 179) = w2 at *;obtain ⟨c0, c1, c2, c3, c4, c5⟩ := HB2.o.at_;have y0 := HN2.o.c0;have y1 := HN2.o.c1
 cases ok with
 | false =>
  have HE := hid (show R = false by rw [HR.o]; rfl)
  go_wp2
  go_ret
  exact ⟨by rw [HE.o]; rfl, HX2.o⟩
 | true =>
 by_cases hlen : (ins.length : Int) = ar
 . have HIL := hid (show ins.length <= 1000000000 by have := HAR.o; omega)
   rw [decide_eq_true hlen] at HR;have hbn : ((ins.length : Int) != ar) = false := by simpa using hlen
   clear hlen
   go_wp2_with fail
   refine (HCO.o (q + 1) (p + 1) _ (HU.o.ext HX2.o) HIL.o (HA2.o.cell 0) (HF2.o.cell 0)).mono ?_;rintro e w3 ⟨rfl, he3⟩;have HX3 := hid (HX2.o.trans he3);have HB3 := hid (HB2.o.ext he3);have HA3 := hid (HA2.o.ext he3);have y1 := he3.cell y1;clear he3 c0 c1 c2 c3 c4 c5 y0 HB2 HA2;obtain ⟨c0, c1, c2, c3, c4, c5⟩ := HB3.o.at_
   cases an with
   | true =>
    have HE := hid (show R = false by rw [HR.o]; rfl)
    go_wp2
    go_ret
    exact ⟨by rw [HE.o]; rfl, HX3.o⟩
   | false =>
   go_wp2_with fail
   refine (HFU.o _).mono ?_;rintro e w4 ⟨rfl, he4⟩;have HX4 := hid (HX3.o.trans he4);have HB4 := hid (HB3.o.ext he4);have HA4 := hid (HA3.o.ext he4);clear he4 c0 c1 c2 c3 c4 c5 y1 HB3 HA3;obtain ⟨c0, c1, c2, c3, c4, c5⟩ := HB4.o.at_
   cases fb with
   | false =>
    have HE := hid (show R = false by rw [HR.o]; rfl)
    go_wp2
    go_ret
    exact ⟨by rw [HE.o]; rfl, HX4.o⟩
   | true =>
   go_wp2_with fail
   refine (HNU.o _).mono ?_;rintro e w5 ⟨rfl, he5⟩;have HX5 := hid (HX4.o.trans he5);have HB5 := hid (HB4.o.ext he5);have HA5 := hid (HA4.o.ext he5);clear he5 c0 c1 c2 c3 c4 c5 HB4 HA4;obtain ⟨c0, c1, c2, c3, c4, c5⟩ := HB5.o.at_
   cases nb with
   | false =>
    have HE := hid (show R = false by rw [HR.o]; rfl)
    go_wp2
    go_ret
    exact ⟨by rw [HE.o]; rfl, HX5.o⟩
   | true =>
   by_cases h9 : op = 9
   . have HE := hid (show R = lb by rw [HR.o, if_pos h9]; rfl)
     have HL := hid (HLI.o h9 rfl _ HX5.o);have y0 := HA5.o.c0;subst h9
     go_wp2_with fail
     refine HL.o.mono ?_;rintro e w6 ⟨rfl, he6⟩
     go_wp2
     go_ret
     exact ⟨by rw [HE.o]; rfl, HX5.o.trans he6⟩
   have HE := hid (show R = body.isEmpty by rw [HR.o, if_neg h9]; rfl)
   have hb9 : (op != 9) = true := by simpa using h9
   cases body with
   | nil =>
    go_wp2
    go_ret
    exact ⟨by rw [HE.o]; rfl, HX5.o⟩
   | cons x l =>
   have hb0 : (((x :: l).length : Int) == 0) = false := by simp; omega
   generalize (x :: l).length = n9 at *
   go_wp2
   go_ret
   exact ⟨by rw [HE.o]; simp, HX5.o⟩
 have HE := hid (show R = false by rw [HR.o, decide_eq_false hlen]; rfl)
 have hbn : ((ins.length : Int) != ar) = true := by simpa using hlen
 clear hlen
 go_wp2
 go_ret
 exact ⟨by rw [HE.o]; rfl, HX2.o⟩
theorem a9z (loop : Int) (f : Nd -> Nat -> Bool) (d : Nat) (v : Value) (l : List Nd) (w : World) (hv : a00 d w v l)
 (hn : ∀ (i : Nat) (hi : i < l.length) (u b : Value) (W : World), RE W u l[i].ins -> a00 (d - 1) W b l[i].body -> l.length <= 32 ->
  Calls Tryz.prog 134 #[a1e l[i].op l[i].kind l[i].fa l[i].a u b, .int .i64 (i : Int), .int .i64 loop] W fun e W' => e = .returned (.bool (f l[i] i)) ∧ Ext W W') :
 Calls Tryz.prog 98 #[v, .int .i64 loop] w fun e w' => e = .returned (.bool (decide (1 <= l.length) && (decide (l.length <= 32) && each f l 0))) ∧ Ext w w' := by
 obtain ⟨A, c, rfl⟩ := hv.form;have HV := hid hv;have HN := hid hn;clear hv hn
 by_cases h1 : 1 <= l.length
 . by_cases h2 : l.length <= 32
   . rw [decide_eq_true h1, decide_eq_true h2, Bool.true_and, Bool.true_and]
     have g1 : ¬ (l.length : Int) < 1 := by omega
     have g2 : ¬ (32 : Int) < (l.length : Int) := by omega
     have H2 := hid h2;clear h1 h2
     go_enter Tryz.func98, Tryz.ntmps98
     go_wp2
     go_loopw [17] (fun iv wr => ∃ k : Nat, k <= l.length ∧ iv = .int .i64 (k : Int) ∧ each f (l.take k) 0 = true ∧ Ext w wr) (fun iv _ => l.length - (intOf iv).toNat)
     case atStart => exact ⟨0, Nat.zero_le _, rfl, rfl, Ext.refl _⟩
     case round =>
     obtain ⟨k, hk, rfl, hp, hext⟩ := hrel;have HP := hid hp;have HE := hid hext;clear hp
     by_cases hlt : k < l.length
     . have q1 : (k : Int) < (l.length : Int) := by omega
       have q0 : 0 <= (k : Int) := by omega
       have q1n : k < l.length := hlt;have HLT := hid hlt;have hk32 : k <= 32 := by have := H2.o; omega
       obtain ⟨bA, oA, u, bv, rfl, c0, c1, c2, c3, c4, c5, hu, hbv⟩ := (HV.o.ext hext).at_ hlt;have HS := hid (a9u f l hlt);have HNO := hid (a8F f l hlt);have HNX := hid (fun W he => HN.o k hlt u bv W (RE.ext hu he) (hbv.ext he) H2.o)
       generalize l[k] = x at *;obtain ⟨op, ins, kind, fa, a, body⟩ := x;simp only [Nd.op, Nd.kind, Nd.fa, Nd.a, Nd.ins, Nd.body] at c0 c1 c2 c3 c4 c5 hu hbv HNX;obtain ⟨Au, cu, rfl⟩ := hu.form;obtain ⟨Ab, cb, rfl⟩ := hbv.form;have hxn := (Ext.refl wr).alloc (a0m op kind fa a (.slice Au ins.length cu) (.slice Ab body.length cb));have HXN := hid hxn;have HXE := hid (hext.trans hxn);have HC := hid (HNX.o _ hxn);obtain ⟨y0, y1, y2, y3, y4, y5⟩ := (Bx6.new wr 101 (.int .i64 op) (.slice Au ins.length cu) (.int .i64 kind) (.int .i64 fa) (.int .i64 a) (.slice Ab body.length cb)).at_;clear hext hlt hk hxn hu hbv;rw [HP.o, Bool.true_and] at HS;generalize f (.mk op ins kind fa a body) k = r at *
       go_upto_region 6 with fail
       clear c0 c1 c2 c3 c4 c5
       go_wp2_with fail
       refine HC.o.mono ?_;rintro e w2 ⟨rfl, he2⟩;have HX2 := hid (HXE.o.trans he2);clear he2 y0 y1 y2 y3 y4 y5
       cases r with
       | true =>
        go_wp2
        exact ⟨⟨k + 1, HLT.o, by go_num, HS.o, HX2.o⟩, by have := HLT.o; simp [intOf]; omega⟩
       | false =>
       have HF := hid (HNO.o rfl)
       go_wp2
       go_ret
       exact ⟨by rw [HF.o]; rfl, HX2.o⟩
     obtain rfl : k = l.length := by omega
     have q1 : ¬ (l.length : Int) < (l.length : Int) := by omega
     rw [List.take_length] at HP;clear hext
     go_wp2
     go_ret
     exact ⟨by rw [HP.o]; rfl, HE.o⟩
   rw [decide_eq_false h2, Bool.false_and, Bool.and_false];have g1 : ¬ (l.length : Int) < 1 := by omega
   have g2 : (32 : Int) < (l.length : Int) := by omega
   clear h1 h2
   go_enter Tryz.func98, Tryz.ntmps98
   go_wp2
   go_ret
   exact ⟨rfl, Ext.refl _⟩
 rw [decide_eq_false h1, Bool.false_and];have g1 : (l.length : Int) < 1 := by omega
 clear h1
 go_enter Tryz.func98, Tryz.ntmps98
 go_wp2
 go_ret
 exact ⟨rfl, Ext.refl _⟩
theorem b0v (loop : Nat) (d : Nat) (v : Value) (l : List Nd) (w : World) (hv : a00 d w v l) :
 Calls Tryz.prog 98 #[v, .int .i64 (loop : Int)] w fun e w' => e = .returned (.bool (a2k l loop)) ∧ Ext w w' := by
 refine a9z (loop : Int) (b3H loop) d v l w hv fun i hi u b W hu hb _ => ?_
 have h := a9y l[i].op l[i].kind l[i].fa l[i].a (loop : Int) u b l[i].ins l[i].body (d - 1) i false W (.inr (by omega)) hu hb (fun h9 hn => by
  rw [h9] at hn;unfold a0K at hn;rw [if_neg (by omega), if_pos rfl, decide_eq_false (by omega), Bool.false_and] at hn
  cases hn)
 rw [a9x] at h
 cases hx : l[i] with
 | mk op ins kind fa a body => rw [hx] at h; exact h
theorem a8H (d : Nat) (v : Value) (l : List Nd) (w : World) (hv : a00 d w v l) :
 Calls Tryz.prog 98 #[v, .int .i64 (-1)] w fun e w' => e = .returned (.bool (a3C l)) ∧ Ext w w' := by
 refine a9z (-1) a5i d v l w hv fun i hi u b W hu hb _ => ?_
 have h := a9y l[i].op l[i].kind l[i].fa l[i].a (-1) u b l[i].ins l[i].body (d - 1) i (a2k l[i].body i) W (.inl rfl) hu hb (fun _ _ W' he => b0v i (d - 1) b l[i].body W' (hb.ext he))
 cases hx : l[i] with
 | mk op ins kind fa a body => rw [hx] at h; exact h
end Go.Proofs.YtdkejfjcchlnpaaGreat
namespace Go.Proofs.YtdkejfjcchlnpaaGreat
open Go.RowKit Go.Ox Go.Ox.Gr
attribute [local irreducible] RE a00
abbrev gAg (v : Value) (out : Int) : Value := .agg #[v, .int .i64 out]
abbrev gCs (v : Value) (out : Int) : Obj := .cells #[v, .int .i64 out] 24
theorem b1O (d : Nat) (v : Value) (l : List Nd) (out : Int) (w : World) (hv : a00 d w v l) (hl : l.length <= 1000000) :
 Calls Tryz.prog 99 #[gAg v out] w fun e w' => e = .returned (.int .i64 (loops l : Int)) ∧ Ext w w' := by
 obtain ⟨A, c, rfl⟩ := hv.form;have HX0 := hid ((Ext.refl w).alloc (gCs (.slice A l.length c) out));have HB0 := hid (Blk.new w 24 #[.slice A l.length c, .int .i64 out]);have HV := hid (hv.ext HX0.o);clear hv
 go_enter Tryz.func99, Tryz.ntmps99
 go_upto_region 1 with fail
 generalize w.heap.size = p at *;generalize w.alloc (gCs (.slice A l.length c) out) = w0 at *;have c0 := HB0.o.c0
 go_wp2
 clear c0
 go_loopw [3, 9] (fun o iv wr => ∃ k : Nat, k <= l.length ∧ iv = .int .i64 (k : Int) ∧ o = .int .i64 (loops (l.take k) : Int) ∧ Ext w0 wr) (fun _ iv _ => l.length - (intOf iv).toNat)
 case atStart => exact ⟨0, Nat.zero_le _, rfl, rfl, Ext.refl _⟩
 case round =>
 obtain ⟨k, hk, rfl, rfl, hext⟩ := hrel;have HE := hid hext;have hll := a9v l k
 by_cases hlt : k < l.length
 . have q1 : (k : Int) < (l.length : Int) := by omega
   have q0 : 0 <= (k : Int) := by omega
   have q1n : k < l.length := hlt;have HLT := hid hlt;obtain ⟨bA, oA, u, bv, rfl, c0, c1, c2, c3, c4, c5, hu, hbv⟩ := (HV.o.ext hext).at_ hlt;have HS := hid (b1D l hlt);obtain ⟨n, hn⟩ : ∃ n, n = loops (l.take k) := ⟨_, rfl⟩;rw [<- hn] at HS hll ⊢;have HN := hid hn;generalize l[k] = x at *;obtain ⟨op, ins, kind, fa, a, body⟩ := x;simp only [Nd.op, Nd.kind, Nd.fa, Nd.a, Nd.ins, Nd.body] at c0 c1 c2 c3 c4 c5 hu hbv;replace HS := hid (show loops (l.take (k + 1)) = n + (if op = 9 then 1 else 0) from HS.o)
   obtain ⟨Au, cu, rfl⟩ := hu.form;obtain ⟨Ab, cb, rfl⟩ := hbv.form;have hxn := (Ext.refl wr).alloc (a0m op kind fa a (.slice Au ins.length cu) (.slice Ab body.length cb));have HXE := hid (hext.trans hxn);obtain ⟨y0, y1, y2, y3, y4, y5⟩ := (Bx6.new wr 101 (.int .i64 op) (.slice Au ins.length cu) (.int .i64 kind) (.int .i64 fa) (.int .i64 a) (.slice Ab body.length cb)).at_;clear hext hlt hk hxn hu hbv hn
   by_cases h9 : op = 9
   . rw [if_pos h9] at HS
     subst h9
     go_wp2
     exact ⟨⟨k + 1, HLT.o, by go_num, by rw [HS.o]; go_num, HXE.o⟩, by have := HLT.o; simp [intOf]; omega⟩
   rw [if_neg h9] at HS
   go_wp2
   exact ⟨⟨k + 1, HLT.o, by go_num, by rw [HS.o]; rfl, HXE.o⟩, by have := HLT.o; simp [intOf]; omega⟩
 obtain rfl : k = l.length := by omega
 have q1 : ¬ (l.length : Int) < (l.length : Int) := by omega
 rw [List.take_length];clear hext hll;generalize hn : loops l = n at *;have HN := hid hn;clear hn
 go_wp2
 go_ret
 exact ⟨by rw [HN.o]; rfl, HX0.o.trans HE.o⟩
def gE (g : G) : Int := if gOk g = true then 0 else 170
theorem a0G (d : Nat) (v : Value) (l : List Nd) (out : Int) (w : World) (hv : a00 d w v l) :
 Calls Tryz.prog 67 #[gAg v out] w fun e w' => e = .returned (.int .i64 (gE (l, out))) ∧ Ext w w' := by
 obtain ⟨A, c, rfl⟩ := hv.form;have HX0 := hid ((Ext.refl w).alloc (gCs (.slice A l.length c) out));have HB0 := hid (Blk.new w 24 #[.slice A l.length c, .int .i64 out]);have HV := hid (hv.ext HX0.o);have HLI := hid (fun w h => a8H d (.slice A l.length c) l w h)
 have HLO := hid (fun w h hl => b1O d (.slice A l.length c) l out w h hl)
 have HG := hid (show gE (l, out) = if (a3C l && (decide (0 <= out) && (decide (out < (l.length : Int)) && decide (loops l <= 1)))) = true then 0 else 170 from rfl)
 have H32 := hid (show a3C l = true -> l.length <= 1000000 from fun h => by
  unfold a3C at h;rw [Bool.and_eq_true, Bool.and_eq_true, decide_eq_true_eq, decide_eq_true_eq] at h
  omega)
 generalize gE (l, out) = E at *;generalize a3C l = lk at *;generalize loops l = lp at *;clear hv
 go_enter Tryz.func67, Tryz.ntmps67
 go_upto_region 1 with fail
 generalize w.heap.size = p at *;generalize w.alloc (gCs (.slice A l.length c) out) = w0 at *;have c0 := HB0.o.c0
 go_wp2_with fail
 refine (HLI.o _ HV.o).mono ?_;rintro e w1 ⟨rfl, he1⟩;have HX1 := hid (HX0.o.trans he1);have HB1 := hid (HB0.o.ext he1);have HV1 := hid (HV.o.ext he1);clear he1 c0;have c0 := HB1.o.c0;have c1 := HB1.o.c1
 cases lk with
 | false =>
  have HE := hid (show E = 170 by rw [HG.o]; rfl)
  go_wp2_with fail
  go_ret
  exact ⟨by rw [HE.o]; rfl, HX1.o⟩
 | true =>
 have H32b := hid (H32.o rfl)
 by_cases h0 : out < 0
 . have HE := hid (show E = 170 by rw [HG.o, decide_eq_false (show ¬ 0 <= out by omega)]; rfl)
   go_wp2_with fail
   go_ret
   exact ⟨by rw [HE.o]; rfl, HX1.o⟩
 by_cases h1 : (l.length : Int) <= out
 . have HE := hid (show E = 170 by rw [HG.o, decide_eq_false (show ¬ out < (l.length : Int) by omega)]; simp)
   go_wp2_with fail
   go_ret
   exact ⟨by rw [HE.o]; rfl, HX1.o⟩
 rw [decide_eq_true (show 0 <= out by omega), decide_eq_true (show out < (l.length : Int) by omega)] at HG
 go_wp2_with fail
 refine (HLO.o _ HV1.o H32b.o).mono ?_;rintro e w2 ⟨rfl, he2⟩;have HX2 := hid (HX1.o.trans he2);clear he2 c0 c1
 by_cases h2 : lp <= 1
 . have HE := hid (show E = 0 by rw [HG.o, decide_eq_true h2]; rfl)
   have q : ¬ (1 : Int) < (lp : Int) := by omega
   clear h2
   go_wp2
   go_ret
   exact ⟨by rw [HE.o]; rfl, HX2.o⟩
 have HE := hid (show E = 170 by rw [HG.o, decide_eq_false h2]; rfl)
 have q : (1 : Int) < (lp : Int) := by omega
 clear h2
 go_wp2
 go_ret
 exact ⟨by rw [HE.o]; rfl, HX2.o⟩
end Go.Proofs.YtdkejfjcchlnpaaGreat
namespace Go.Proofs.YtdkejfjcchlnpaaGreat
open Go.RowKit Go.Ox Go.Ox.Gr
attribute [local irreducible] RE a00
theorem b0w (op kind fa a : Int) (u b : Value) (w : World) :
 Calls Tryz.prog 186 #[a1e op kind fa a u b] w fun e w' => e = .returned (.bool (op == 9)) ∧ Ext w w' := by
 have HX := hid ((Ext.refl w).alloc (a0m op kind fa a u b));obtain ⟨c0, c1, c2, c3, c4, c5⟩ := (Bx6.new w 101 (.int .i64 op) u (.int .i64 kind) (.int .i64 fa) (.int .i64 a) b).at_
 go_enter Tryz.func186, Tryz.ntmps186
 go_wp2
 go_ret
 exact ⟨rfl, HX.o⟩
theorem b0x (d : Nat) (v : Value) (l : List Nd) (w : World) (hv : a00 d w v l) (hl : l.length <= 1000000) :
 Calls Tryz.prog 185 #[v, .func (.func 186) #[] #[]] w fun e w' => e = .returned (.int .i64 (a05 l)) ∧ Ext w w' := by
 have eg : ∀ args w, (callFunc 186 args).run Tryz.prog w = .ok (.enter 186 args) w := enters_of Tryz.func186 (by kernel_rfl) rfl
 obtain ⟨A, c, rfl⟩ := hv.form;have HV := hid hv;have HL := hid hl;clear hv hl
 go_enter Tryz.func185, Tryz.ntmps185
 go_wp2
 go_loopw [8] (fun iv wr => ∃ k : Nat, k <= l.length ∧ iv = .int .i64 (k : Int) ∧ a05 (l.take k) = -1 ∧ Ext w wr) (fun iv _ => l.length - (intOf iv).toNat)
 case atStart => exact ⟨0, Nat.zero_le _, rfl, rfl, Ext.refl _⟩
 case round =>
 obtain ⟨k, hk, rfl, hp, hext⟩ := hrel;have HP := hid hp;have HE := hid hext;clear hp
 by_cases hlt : k < l.length
 . have g1 : (k : Int) < (l.length : Int) := by omega
   have g0 : 0 <= (k : Int) := by omega
   have g1n : k < l.length := hlt;have hkb : k <= 1000000 := by have := HL.o; omega
   have HLT := hid hlt;obtain ⟨bA, oA, u, bv, rfl, c0, c1, c2, c3, c4, c5, hu, hbv⟩ := (HV.o.ext hext).at_ hlt;have HS := hid (a6T l hlt HP.o);have HT := hid (fun h9 => a6e l hlt HP.o h9)
   generalize l[k] = x at *;obtain ⟨op, ins, kind, fa, a, body⟩ := x;simp only [Nd.op, Nd.kind, Nd.fa, Nd.a, Nd.ins, Nd.body] at c0 c1 c2 c3 c4 c5 hu hbv;replace HS := hid (show a05 (l.take (k + 1)) = if op = 9 then (k : Int) else -1 from HS.o)
   replace HT := hid (show op = 9 -> a05 l = (k : Int) from HT.o);have HC := hid (b0w op kind fa a u bv wr);obtain ⟨Au, cu, rfl⟩ := hu.form;obtain ⟨Ab, cb, rfl⟩ := hbv.form;clear hext hk hlt hu hbv
   by_cases h9 : op = 9
   . have HR := hid (HT.o h9)
     subst h9
     go_wp2_with fail
     refine HC.o.mono ?_;rintro e w1 ⟨rfl, he1⟩
     go_wp2
     go_ret
     exact ⟨by rw [HR.o]; rfl, HE.o.trans he1⟩
   rw [if_neg h9] at HS;have hb : (op == 9) = false := by simpa using h9
   rw [hb] at HC;clear h9 hb HT
   go_wp2_with fail
   refine HC.o.mono ?_;rintro e w1 ⟨rfl, he1⟩
   go_wp2
   exact ⟨⟨k + 1, HLT.o, by go_num, HS.o, HE.o.trans he1⟩, by have := HLT.o; simp [intOf]; omega⟩
 obtain rfl : k = l.length := by omega
 have g1 : ¬ (l.length : Int) < (l.length : Int) := by omega
 rw [List.take_length] at HP;clear hext
 go_wp2
 go_ret
 exact ⟨by rw [HP.o]; rfl, HE.o⟩
def a6V (g : G) : Int := if gOk g = true then max (a05 g.1) 0 else 0
def a1Q (g : G) : Bool := gOk g && decide (0 <= a05 g.1)
theorem a8I {g : G} (h : gOk g = true) : g.1.length <= 32 := by
 unfold gOk a3C at h;simp only [Bool.and_eq_true, decide_eq_true_eq] at h;omega
theorem a7L (d : Nat) (v : Value) (l : List Nd) (out : Int) (w : World) (hv : a00 d w v l) :
 Calls Tryz.prog 168 #[gAg v out] w fun e w' => e = .returned (.tuple #[.int .i64 (a6V (l, out)), .bool (a1Q (l, out))]) ∧ Ext w w' := by
 obtain ⟨A, c, rfl⟩ := hv.form;have HX0 := hid ((Ext.refl w).alloc (gCs (.slice A l.length c) out));have HB0 := hid (Blk.new w 24 #[.slice A l.length c, .int .i64 out]);have HV := hid (hv.ext HX0.o);have HCK := hid (fun w h => a0G d (.slice A l.length c) l out w h)
 have HIX := hid (fun w h hl => b0x d (.slice A l.length c) l w h hl)
 have HLR := hid (a1w l);have HI := hid (show a6V (l, out) = if gOk (l, out) = true then max (a05 l) 0 else 0 from rfl)
 have HB := hid (show a1Q (l, out) = (gOk (l, out) && decide (0 <= a05 l)) from rfl);have H32 := hid (show gOk (l, out) = true -> l.length <= 32 from fun h => a8I h)
 have HGE := hid (show gE (l, out) = if gOk (l, out) = true then 0 else 170 from rfl)
 generalize a6V (l, out) = RI at *;generalize a1Q (l, out) = RB at *;generalize gE (l, out) = E at *;generalize gOk (l, out) = ok at *;generalize a05 l = la at *;clear hv
 go_enter Tryz.func168, Tryz.ntmps168
 go_upto_region 1 with fail
 generalize w.heap.size = p at *;generalize w.alloc (gCs (.slice A l.length c) out) = w0 at *;have c0 := HB0.o.c0;have c1 := HB0.o.c1
 go_wp2_with fail
 refine (HCK.o _ HV.o).mono ?_;rintro e w1 ⟨rfl, he1⟩;have HX1 := hid (HX0.o.trans he1);have HV1 := hid (HV.o.ext he1);have c0 := he1.cell c0;clear he1 c1
 cases ok with
 | false =>
  have HE := hid (show E = 170 from HGE.o);have H1 := hid (show RI = 0 from HI.o);have H2 := hid (show RB = false from HB.o);obtain rfl := HE.o
  go_wp2
  go_ret2
  exact ⟨by rw [H1.o, H2.o]; rfl, HX1.o⟩
 | true =>
 have HE := hid (show E = 0 from HGE.o);have H1 := hid (show RI = max la 0 from HI.o);have H2 := hid (show RB = decide (0 <= la) from HB.o);have H3 := hid (H32.o rfl);obtain rfl := HE.o
 go_wp2_with fail
 refine (HIX.o _ HV1.o (by have := H3.o; omega)).mono ?_
 rintro e w2 ⟨rfl, he2⟩;have HX2 := hid (HX1.o.trans he2);clear he2 c0
 go_wp2
 go_ret2
 exact ⟨by rw [H1.o, H2.o]; rfl, HX2.o⟩
theorem b1P (d : Nat) (v : Value) (l : List Nd) (out : Int) (w : World) (hv : a00 d w v l) (hl : l.length <= 1000000) :
 Calls Tryz.prog 152 #[gAg v out] w fun e w' => e = .returned (.int .i64 (a05 l)) ∧ Ext w w' := by
 obtain ⟨A, c, rfl⟩ := hv.form;have HX0 := hid ((Ext.refl w).alloc (gCs (.slice A l.length c) out));have HB0 := hid (Blk.new w 24 #[.slice A l.length c, .int .i64 out]);have HV := hid (hv.ext HX0.o);have HL := hid hl;clear hv hl
 go_enter Tryz.func152, Tryz.ntmps152
 go_upto_region 1 with fail
 generalize w.heap.size = p at *;generalize w.alloc (gCs (.slice A l.length c) out) = w0 at *
 go_wp2
 go_loopw [3] (fun iv wr => ∃ k : Nat, k <= l.length ∧ iv = .int .i64 (k : Int) ∧ a05 (l.take k) = -1 ∧ w0 = wr) (fun iv _ => l.length - (intOf iv).toNat)
 case atStart => exact ⟨0, Nat.zero_le _, rfl, rfl, rfl⟩
 case round =>
 obtain ⟨k, hk, rfl, hp, rfl⟩ := hrel;have c0 := HB0.o.c0;have HP := hid hp;clear hp
 by_cases hlt : k < l.length
 . have g1 : (k : Int) < (l.length : Int) := by omega
   have g0 : 0 <= (k : Int) := by omega
   have g1n : k < l.length := hlt;have hkb : k <= 1000000 := by have := HL.o; omega
   have HLT := hid hlt;obtain ⟨bA, oA, u, bv, rfl, e0, e1, e2, e3, e4, e5, hu, hbv⟩ := HV.o.at_ hlt;have HS := hid (a6T l hlt HP.o);have HT := hid (fun h9 => a6e l hlt HP.o h9)
   generalize l[k] = x at *;obtain ⟨op, ins, kind, fa, a, body⟩ := x;simp only [Nd.op, Nd.kind, Nd.fa, Nd.a, Nd.ins, Nd.body] at e0 e1 e2 e3 e4 e5 hu hbv;replace HS := hid (show a05 (l.take (k + 1)) = if op = 9 then (k : Int) else -1 from HS.o)
   replace HT := hid (show op = 9 -> a05 l = (k : Int) from HT.o);clear hk hlt hu hbv e1 e2 e3 e4 e5
   by_cases h9 : op = 9
   . have HR := hid (HT.o h9)
     subst h9
     go_wp2
     go_ret
     exact ⟨by rw [HR.o]; rfl, HX0.o⟩
   rw [if_neg h9] at HS;clear HT
   go_wp2
   exact ⟨⟨k + 1, HLT.o, by go_num, HS.o, by first | rfl | trivial⟩, by have := HLT.o; simp [intOf]; omega⟩
 obtain rfl : k = l.length := by omega
 have g1 : ¬ (l.length : Int) < (l.length : Int) := by omega
 rw [List.take_length] at HP
 go_wp2
 go_ret
 exact ⟨by rw [HP.o]; rfl, HX0.o⟩
end Go.Proofs.YtdkejfjcchlnpaaGreat
namespace Go.Proofs.YtdkejfjcchlnpaaGreat
open Go.RowKit Go.Ox Go.Ox.Gr
attribute [local irreducible] RE OE a00
theorem a7M : Elem Tryz.prog 77 27 (.agg #[.int .i64 0, .int .i64 0]) 2 16 := Elem.mk' Tryz.underlying77 (by kernel_rfl) rfl (by omega)
theorem cell_grown {w w' : World} {row : Option Nat} {b o : Nat} {v : Value} (hg : w.grownBy w' row) (h : w.cell? ⟨b, o, none⟩ = some v) (hr : row ≠ some b) : w'.cell? ⟨b, o, none⟩ = some v := by
 have h1 := (ExtQ.grown (Q := fun k => k ≠ b) hg (fun g hg e => hr (by rw [hg, e]))).block b (World.block_lt_of_cell? w _ h) (fun h => h rfl)
 rw [<- h];simp [World.cell?, h1]
theorem a6g : ∀ (l : List Nd) (i : Nat), (∀ n ∈ l, n.body.length <= 100) -> (a0i l i).length <= l.length * 101
 | [], _, _ => by simp [a0i]
 | n :: l, i, h => by
  have h1 := a6g l (i + 1) fun m hm => h m (List.mem_cons_of_mem _ hm)
  have h2 := h n List.mem_cons_self;unfold a0i;rw [List.length_append, a8G, List.length_cons];omega
theorem a16 (l : List Nd) (k : Nat) (h : ∀ n ∈ l, n.body.length <= 100) (hl : l.length <= 100) : (a0a (l.take k)).length <= 10100 := by
 have := a6g (l.take k) 0 fun n hn => h n (List.mem_of_mem_take hn)
 rw [List.length_take] at this;unfold a0a;omega
theorem a0X (d : Nat) (v : Value) (l : List Nd) (out : Int) (w : World) (hv : a00 d w v l) (hl : l.length <= 100) (hbl : ∀ n ∈ l, n.body.length <= 100) :
 Calls Tryz.prog 35 #[gAg v out] w fun e w' => ∃ u, e = .returned u ∧ OE 27 w.heap.size w' u (a0a l) ∧ Ext w w' := by
 obtain ⟨A, c, rfl⟩ := hv.form;have HX0 := hid ((Ext.refl w).alloc (gCs (.slice A l.length c) out));have HB0 := hid (Blk.new w 24 #[.slice A l.length c, .int .i64 out]);have HV := hid (hv.ext HX0.o);have HL := hid hl;have HBL := hid (fun (k : Nat) (h : k < l.length) => hbl l[k] (List.getElem_mem h))
 have HPL := hid (fun k => a16 l k hbl hl)
 clear hv hl hbl
 go_enter Tryz.func35, Tryz.ntmps35
 go_upto_region 1 with fail
 obtain ⟨p, hp⟩ : ∃ p, p = w.heap.size := ⟨_, rfl⟩;rw [<- hp] at HB0 ⊢;have HPS := hid hp;clear hp;generalize w.alloc (gCs (.slice A l.length c) out) = w0 at *;have HX1 := HX0;have HB1 := HB0;have HV1 := HV;clear HX0 HB0 HV;obtain ⟨w1, hw1⟩ : ∃ w1, w1 = w0 := ⟨_, rfl⟩;subst hw1
 go_wp2
 go_loopw [3, 4] (fun o iv wr => ∃ k : Nat, k <= l.length ∧ iv = .int .i64 (k : Int) ∧ OE 27 w1.heap.size wr o (a0a (l.take k)) ∧ Ext w1 wr) (fun _ iv _ => l.length - (intOf iv).toNat)
 case atStart => exact ⟨0, Nat.zero_le _, rfl, OE.a2g _ _ _, Ext.refl _⟩
 case round =>
 obtain ⟨k, hk, rfl, ho, hext⟩ := hrel;have HE := hid hext;have HO := hid ho;have HPK := hid (HPL.o k);obtain ⟨AO, cO, hvo⟩ := ho.re.form;have hk100 : k <= 100 := by have := HL.o; omega
 by_cases hlt : k < l.length
 . have q1 : (k : Int) < (l.length : Int) := by omega
   have q0 : 0 <= (k : Int) := by omega
   have q1n : k < l.length := hlt;have HLT := hid hlt;obtain ⟨bA, oA, u, bv, rfl, e0, e1, e2, e3, e4, e5, hu, hbv⟩ := HV1.o.at_ hlt;have HS := hid (a9w l hlt);have HBK := hid (HBL.o k hlt);have HPK1 := hid (HPL.o (k + 1));rw [HS.o] at HPK1;generalize l[k] = x at *;obtain ⟨op, ins, kind, fa, a, body⟩ := x;simp only [Nd.op, Nd.kind, Nd.fa, Nd.a, Nd.ins, Nd.body] at e0 e1 e2 e3 e4 e5 hu hbv;replace HS := hid (show a0a (l.take (k + 1)) = a0a (l.take k) ++ plN k body.length from HS.o);replace HBK := hid (show body.length <= 100 from HBK.o);replace HPK1 := hid (show (a0a (l.take k) ++ plN k body.length).length <= 10100 from HPK1.o);obtain ⟨Au, cu, rfl⟩ := hu.form;obtain ⟨Ab, cb, rfl⟩ := hbv.form;generalize a0a (l.take k) = pl at *;subst hvo;have HE5 := hid e5;have c0 := (HB1.o.ext hext).c0;have HL1 := hid (RE.lit wr #[.int .i64 (k : Int), .int .i64 (-1)] 27 1 [((k : Int), (-1 : Int))] rfl (by omega) rfl)
   have HXA := hid ((Ext.refl wr).alloc (.cells #[.int .i64 (k : Int), .int .i64 (-1)] 27));have HOL := hid ((HO.o).ext HXA.o);have HXB := hid ((HE.o).trans HXA.o);clear ho hext hlt hk hu hbv e0 e1 e2 e3 e4 e5
   go_wp2_with (at_builtin; refine a07 rfl a7M _ _ _ rfl w1.heap.size _ _ pl [((k : Int), (-1 : Int))] rfl HOL.o rfl HL1.o (by have := HPK.o; simp; omega) (by have := HPK.o; unfold maxLen; simp; omega) HXB.o.size ?_; intro v7 w7 ho7 hg7 hat7)
   have HX7 := hid (HXB.o.grown hat7 fun g hg => (HOL.o.own.lt g hg).1)
   have HO7 := hid ho7;clear c0 hg7 hat7 HOL HL1 HXA HXB HO HE
   go_wp2
   go_loopw [3, 5] (fun o iv wx => ∃ j : Nat, j <= body.length ∧ iv = .int .i64 (j : Int) ∧ OE 27 w1.heap.size wx o (pl ++ plN k j) ∧ Ext w1 wx) (fun _ iv _ => body.length - (intOf iv).toNat)
   case atStart => exact ⟨0, Nat.zero_le _, rfl, HO7.o, HX7.o⟩
   case round =>
   obtain ⟨j, hj, rfl, ho, hext⟩ := hrel;rename World => wx
   have HE := hid hext;have HO := hid ho;obtain ⟨AP, cP, hvo⟩ := ho.re.form;have hj100 : j <= 100 := by have := HBK.o; omega
   have c0 := (HB1.o.ext hext).c0;have e5 := hext.cell HE5.o
   by_cases hlt : j < body.length
   . have r1 : (j : Int) < (body.length : Int) := by omega
     have HJT := hid hlt;have HSJ := hid (plN_s k j);have HPJ := hid (show (pl ++ plN k j).length <= 10100 by have h1 := HPK1.o; rw [List.length_append, a8G] at h1 ⊢; omega)
     have HAS := hid (show pl ++ plN k (j + 1) = (pl ++ plN k j) ++ [((k : Int), (j : Int))] by rw [HSJ.o, List.append_assoc])
     generalize pl ++ plN k j = pj at *;subst hvo;have HL1 := hid (RE.lit wx #[.int .i64 (k : Int), .int .i64 (j : Int)] 27 1 [((k : Int), (j : Int))] rfl (by omega) rfl)
     have HXA := hid ((Ext.refl wx).alloc (.cells #[.int .i64 (k : Int), .int .i64 (j : Int)] 27));have HOL := hid (ho.ext HXA.o);have HXB := hid (HE.o.trans HXA.o);clear ho hext hlt hj
     go_wp2_with (at_builtin; refine a07 rfl a7M _ _ _ rfl w1.heap.size _ _ pj [((k : Int), (j : Int))] rfl HOL.o rfl HL1.o (by have := HPJ.o; simp; omega) (by have := HPJ.o; unfold maxLen; simp; omega) HXB.o.size ?_; intro v8 w8 ho8 hg8 hat8)
     have HX8 := hid (HXB.o.grown hat8 fun g hg => (HOL.o.own.lt g hg).1)
     have HO8 := hid ho8;clear hg8 hat8 ho8
     go_wp2
     exact ⟨⟨j + 1, HJT.o, by go_num, by rw [HAS.o]; exact HO8.o, HX8.o⟩, by have := HJT.o; simp [intOf]; omega⟩
   obtain rfl : j = body.length := by omega
   have r1 : ¬ (body.length : Int) < (body.length : Int) := by omega
   clear ho hext hj hlt
   go_wp2
   exact ⟨⟨k + 1, HLT.o, by go_num, by rw [HS.o]; exact HO.o, HE.o⟩, by have := HLT.o; simp [intOf]; omega⟩
 obtain rfl : k = l.length := by omega
 have q1 : ¬ (l.length : Int) < (l.length : Int) := by omega
 rw [List.take_length] at HO;have HOF := hid (HO.o.low (show p <= w1.heap.size from Nat.le_of_lt HB1.o.lt));have c0 := (HB1.o.ext hext).c0;clear ho hext hk hlt hvo
 go_wp2
 go_ret
 exact ⟨_, rfl, by rw [<- HPS.o]; exact HOF.o, HX1.o.trans HE.o⟩
theorem b0y (d : Nat) (v : Value) (l : List Nd) (out : Int) (w : World) (hv : a00 d w v l) (hl : l.length <= 100) (hbl : ∀ n ∈ l, n.body.length <= 100) (hok : gOk (l, out) = true) :
 Calls Tryz.prog 166 #[gAg v out] w fun e w' => ∃ u, e = .returned u ∧ OE 27 w.heap.size w' u (a0a l) ∧ Ext w w' := by
 obtain ⟨A, c, rfl⟩ := hv.form;have HX0 := hid ((Ext.refl w).alloc (gCs (.slice A l.length c) out));have HB0 := hid (Blk.new w 24 #[.slice A l.length c, .int .i64 out]);have HV := hid (hv.ext HX0.o);have HL := hid hl;have HBL := hid (fun (k : Nat) (h : k < l.length) => hbl l[k] (List.getElem_mem h))
 have HPL := hid (fun k => a16 l k hbl hl)
 have HCK := hid (fun w h => a0G d (.slice A l.length c) l out w h)
 rw [show gE (l, out) = 0 from if_pos hok] at HCK;clear hok;clear hv hl hbl
 go_enter Tryz.func166, Tryz.ntmps166
 go_upto_region 1 with fail
 obtain ⟨p, hp⟩ : ∃ p, p = w.heap.size := ⟨_, rfl⟩;rw [<- hp] at HB0 ⊢;have HPS := hid hp;clear hp;generalize w.alloc (gCs (.slice A l.length c) out) = w0 at *;have c0 := HB0.o.c0;have c1 := HB0.o.c1
 go_wp2_with fail
 refine (HCK.o _ HV.o).mono ?_;rintro e w1 ⟨rfl, he1⟩;have HX1 := hid (HX0.o.trans he1);have HB1 := hid (HB0.o.ext he1);have HV1 := hid (HV.o.ext he1);have c0 := he1.cell c0;clear he1 c1
 go_wp2
 clear c0
 go_loopw [3, 13] (fun o iv wr => ∃ k : Nat, k <= l.length ∧ iv = .int .i64 (k : Int) ∧ OE 27 w1.heap.size wr o (a0a (l.take k)) ∧ Ext w1 wr) (fun _ iv _ => l.length - (intOf iv).toNat)
 case atStart => exact ⟨0, Nat.zero_le _, rfl, OE.a2g _ _ _, Ext.refl _⟩
 case round =>
 obtain ⟨k, hk, rfl, ho, hext⟩ := hrel;have HE := hid hext;have HO := hid ho;have HPK := hid (HPL.o k);obtain ⟨AO, cO, hvo⟩ := ho.re.form;have hk100 : k <= 100 := by have := HL.o; omega
 by_cases hlt : k < l.length
 . have q1 : (k : Int) < (l.length : Int) := by omega
   have q0 : 0 <= (k : Int) := by omega
   have q1n : k < l.length := hlt;have HLT := hid hlt;obtain ⟨bA, oA, u, bv, rfl, e0, e1, e2, e3, e4, e5, hu, hbv⟩ := HV1.o.at_ hlt;have HS := hid (a9w l hlt);have HBK := hid (HBL.o k hlt);have HPK1 := hid (HPL.o (k + 1));rw [HS.o] at HPK1;generalize l[k] = x at *;obtain ⟨op, ins, kind, fa, a, body⟩ := x;simp only [Nd.op, Nd.kind, Nd.fa, Nd.a, Nd.ins, Nd.body] at e0 e1 e2 e3 e4 e5 hu hbv;replace HS := hid (show a0a (l.take (k + 1)) = a0a (l.take k) ++ plN k body.length from HS.o);replace HBK := hid (show body.length <= 100 from HBK.o);replace HPK1 := hid (show (a0a (l.take k) ++ plN k body.length).length <= 10100 from HPK1.o);obtain ⟨Au, cu, rfl⟩ := hu.form;obtain ⟨Ab, cb, rfl⟩ := hbv.form;generalize a0a (l.take k) = pl at *;subst hvo;have HE5 := hid e5;have e0 := hext.cell e0;have e1 := hext.cell e1;have e2 := hext.cell e2;have e3 := hext.cell e3;have e4 := hext.cell e4;have e5 := hext.cell e5;have hxn := (Ext.refl wr).alloc (a0m op kind fa a (.slice Au ins.length cu) (.slice Ab body.length cb));obtain ⟨y0, y1, y2, y3, y4, y5⟩ := (Bx6.new wr 101 (.int .i64 op) (.slice Au ins.length cu) (.int .i64 kind) (.int .i64 fa) (.int .i64 a) (.slice Ab body.length cb)).at_;have HXN := hid (HE.o.trans hxn);have HON := hid (ho.ext hxn);have HQS := hid (show wr.heap.size < (wr.alloc (a0m op kind fa a (.slice Au ins.length cu) (.slice Ab body.length cb))).heap.size by simp)
   have HQO := hid (fun g hg => (ho.own.lt g hg).2)
   clear hxn y0 y1 y2 y3 y4
   go_upto_region 7 with fail
   clear e0 e1 e2 e3 e4 e5;generalize wr.heap.size = q at *;generalize wr.alloc (a0m op kind fa a (.slice Au ins.length cu) (.slice Ab body.length cb)) = wn at *;have HL1 := hid (RE.lit wn #[.int .i64 (k : Int), .int .i64 (-1)] 27 1 [((k : Int), (-1 : Int))] rfl (by omega) rfl)
   have HXA := hid ((Ext.refl wn).alloc (.cells #[.int .i64 (k : Int), .int .i64 (-1)] 27));have HOL := hid ((HON.o).ext HXA.o);have HXB := hid ((HXN.o).trans HXA.o);clear ho hext hlt hk hu hbv;have y5 := HXA.o.cell y5
   go_wp2_with (at_builtin; refine a07 rfl a7M _ _ _ rfl w1.heap.size _ _ pl [((k : Int), (-1 : Int))] rfl HOL.o rfl HL1.o (by have := HPK.o; simp; omega) (by have := HPK.o; unfold maxLen; simp; omega) HXB.o.size ?_; intro v7 w7 ho7 hg7 hat7; have z5 := cell_grown hat7 y5 (fun e => by have := HQO.o _ e; omega))
   have HX7 := hid (HXB.o.grown hat7 fun g hg => (HOL.o.own.lt g hg).1)
   have HO7 := hid ho7;clear hg7 hat7 HOL HL1 HXA HXB HO HON HE HXN HQS HQO;clear y5
   go_wp2
   clear z5
   go_loopw [3, 26] (fun o iv wx => ∃ j : Nat, j <= body.length ∧ iv = .int .i64 (j : Int) ∧ OE 27 w1.heap.size wx o (pl ++ plN k j) ∧ Ext w1 wx) (fun _ iv _ => body.length - (intOf iv).toNat)
   case atStart => exact ⟨0, Nat.zero_le _, rfl, HO7.o, HX7.o⟩
   case round =>
   obtain ⟨j, hj, rfl, ho, hext⟩ := hrel;rename World => wx
   have HE := hid hext;have HO := hid ho;obtain ⟨AP, cP, hvo⟩ := ho.re.form;have hj100 : j <= 100 := by have := HBK.o; omega
   by_cases hlt : j < body.length
   . have r1 : (j : Int) < (body.length : Int) := by omega
     have HJT := hid hlt;have HSJ := hid (plN_s k j);have HPJ := hid (show (pl ++ plN k j).length <= 10100 by have h1 := HPK1.o; rw [List.length_append, a8G] at h1 ⊢; omega)
     have HAS := hid (show pl ++ plN k (j + 1) = (pl ++ plN k j) ++ [((k : Int), (j : Int))] by rw [HSJ.o, List.append_assoc])
     generalize pl ++ plN k j = pj at *;subst hvo;have HL1 := hid (RE.lit wx #[.int .i64 (k : Int), .int .i64 (j : Int)] 27 1 [((k : Int), (j : Int))] rfl (by omega) rfl)
     have HXA := hid ((Ext.refl wx).alloc (.cells #[.int .i64 (k : Int), .int .i64 (j : Int)] 27));have HOL := hid (ho.ext HXA.o);have HXB := hid (HE.o.trans HXA.o);clear ho hext hlt hj
     go_wp2_with (at_builtin; refine a07 rfl a7M _ _ _ rfl w1.heap.size _ _ pj [((k : Int), (j : Int))] rfl HOL.o rfl HL1.o (by have := HPJ.o; simp; omega) (by have := HPJ.o; unfold maxLen; simp; omega) HXB.o.size ?_; intro v8 w8 ho8 hg8 hat8)
     have HX8 := hid (HXB.o.grown hat8 fun g hg => (HOL.o.own.lt g hg).1)
     have HO8 := hid ho8;clear hg8 hat8 ho8
     go_wp2
     exact ⟨⟨j + 1, HJT.o, by go_num, by rw [HAS.o]; exact HO8.o, HX8.o⟩, by have := HJT.o; simp [intOf]; omega⟩
   obtain rfl : j = body.length := by omega
   have r1 : ¬ (body.length : Int) < (body.length : Int) := by omega
   clear ho hext hj hlt
   go_wp2
   exact ⟨⟨k + 1, HLT.o, by go_num, by rw [HS.o]; exact HO.o, HE.o⟩, by have := HLT.o; simp [intOf]; omega⟩
 obtain rfl : k = l.length := by omega
 have q1 : ¬ (l.length : Int) < (l.length : Int) := by omega
 rw [List.take_length] at HO;have HOF := hid (HO.o.low (show p <= w1.heap.size from Nat.le_of_lt HB1.o.lt));clear ho hext hk hlt hvo
 go_wp2
 go_ret
 exact ⟨_, rfl, by rw [<- HPS.o]; exact HOF.o, HX1.o.trans HE.o⟩
end Go.Proofs.YtdkejfjcchlnpaaGreat
namespace Go.Ox
open Go.RowKit
section
variable {P : Program} {t e : TypeId} {z : Value} {bytes : Nat}
theorem OB.nilO (w : World) (E base : Nat) : OB E base w (.slice none 0 0) [] := World.ownsRow_nil _ _ _ _
end
end Go.Ox
