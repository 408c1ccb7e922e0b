/-
  GrRef, Fr4, Fr5, Fr9, CntMore, Fr12, packed: what the claim needs of them.
-/
import Derived.Test.YtdkejfjcchlnpaaGreatFa42
import Derived.Test.YtdkejfjcchlnpaaGreatFa38
set_option maxHeartbeats 40000000
open Go.Lib (hid)
set_option linter.unusedSimpArgs false
set_option linter.unusedVariables false
set_option maxRecDepth 100000
namespace Go.Proofs.YtdkejfjcchlnpaaGreat
open Go.RowKit Go.Ox Go.Ox.Gr
theorem b3N (op kind fa a loop : Int) (u b : Value) (ins : List Int) (body : List Nd) (d at_ : Nat) (lb : Bool) (w : World) (hl : loop = -1 ∨ 0 ≤ loop) (hu : RE w u ins) (hb : a00 d w b body)
 (hli : op = 9 → a0M op a loop = true → ∀ W, Ext w W → Calls Tryz.prog 85 #[b, .int .i64 (at_ : Int)] W fun e W' => e = .returned (.bool lb) ∧ Ext W W') :
 Calls Tryz.prog 51 #[a1e op kind fa a u b, .int .i64 (at_ : Int), .int .i64 loop] w fun e w' => e = .returned (.bool (a1D loop lb (.mk op ins kind fa a body) at_)) ∧ Ext w w' := by
 by_cases o1 : op < 1
 · exact b7z op kind fa a loop u b ins body d at_ lb w hl hu hb hli (.inl o1)
 by_cases o2 : 11 < op
 · exact b7z op kind fa a loop u b ins body d at_ lb w hl hu hb hli (.inr (.inl ⟨o1, o2⟩))
 by_cases k3 : (ins.length : Int) = arity op
 case neg => exact b7z op kind fa a loop u b ins body d at_ lb w hl hu hb hli (.inr (.inr ⟨o1, o2, k3⟩))
 have k1 : 1 ≤ op := by omega
 have k2 : op ≤ 11 := by omega
 by_cases kf : a2J op = 0
 case neg => exact rn_f op kind fa a loop u b ins body d at_ lb w hl hu hb hli k1 k2 k3 kf
 by_cases q1 : kind = 0
 case neg => exact rn_a op kind fa a loop u b ins body d at_ lb w hl hu hb hli k1 k2 k3 kf (.inl q1)
 by_cases q2 : fa = 0
 case neg => exact rn_a op kind fa a loop u b ins body d at_ lb w hl hu hb hli k1 k2 k3 kf (.inr (.inl ⟨q1, q2⟩))
 by_cases q3 : op = 9
 · exact rn_a op kind fa a loop u b ins body d at_ lb w hl hu hb hli k1 k2 k3 kf (.inr (.inr ⟨q1, q2, q3⟩))
 exact rn_p op kind fa a loop u b ins body d at_ lb w hl hu hb hli k1 k2 k3 kf q3 q1 q2
end Go.Proofs.YtdkejfjcchlnpaaGreat
namespace Go.Proofs.YtdkejfjcchlnpaaGreat
open Go.RowKit Go.Ox Go.Ox.Gr
attribute [local irreducible] RE a00
theorem b0k (loop : Int) (lb : Nd → Nat → Bool) (n : Nd) (i d : Nat) (u b : Value) (w : World) (hl : loop = -1 ∨ 0 ≤ loop) (hu : RE w u n.ins) (hb : a00 d w b n.body)
 (hli : n.op = 9 → a2K n loop = true → ∀ W, Ext w W → Calls Tryz.prog 85 #[b, .int .i64 (i : Int)] W fun e W' => e = .returned (.bool (lb n i)) ∧ Ext W W') :
 Calls Tryz.prog 51 #[a1e n.op n.kind n.fa n.a u b, .int .i64 (i : Int), .int .i64 loop] w fun e w' => e = .returned (.bool (a1D loop (lb n i) n i)) ∧ Ext w w' := by
 cases n with
 | mk op ins kind fa a body => exact b3N op kind fa a loop u b ins body d i (lb (.mk op ins kind fa a body) i) w hl hu hb hli
theorem b7A {n : Nd} {loop : Nat} (h : n.op = 9) : a2K n (loop : Int) = true → False := by
 unfold a2K;rw [if_neg (by omega), if_pos h, decide_eq_false (by omega), Bool.false_and]
 intro h; cases h
theorem b3O (loop : Nat) (d : Nat) (v : Value) (l : List Nd) (w : World) (hv : a00 d w v l) :
 Calls Tryz.prog 85 #[v, .int .i64 (loop : Int)] w fun e w' => e = .returned (.bool (a2i l loop)) ∧ Ext w w' := by
 obtain ⟨A, c, rfl⟩ := hv.form;have HV := hid hv;clear hv;unfold a2i
 by_cases h1 : 1 ≤ l.length
 · by_cases h2 : l.length ≤ 32
   · rw [decide_eq_true h1, decide_eq_true h2, Bool.true_and, Bool.true_and]
     have g1 : ¬ (l.length : Int) < 1 := by omega
     have g2 : ¬ (32 : Int) < (l.length : Int) := by omega
     have H2 := hid h2;clear h1 h2
     go_enter Tryz.func85, Tryz.ntmps85
     go_wp2
     go_loopw [5] (fun iv wr => ∃ k : Nat, k ≤ l.length ∧ iv = .int .i64 (k : Int) ∧ each (b3W loop) (l.take k) 0 = true ∧ Ext w wr) (fun iv _ => l.length - (intOf iv).toNat)
     case atStart => exact ⟨0, Nat.zero_le _, rfl, rfl, Ext.refl _⟩
     case round =>
     obtain ⟨k, hk, rfl, hp, hext⟩ := hrel;have HP := hid hp;have HE := hid hext;clear hp
     by_cases hlt : k < l.length
     · have q1 : (k : Int) < (l.length : Int) := by omega
       have q0 : 0 ≤ (k : Int) := by omega
       have q1n : k < l.length := hlt;have HLT := hid hlt;have hk32 : k ≤ 32 := by have := H2.o; omega
       obtain ⟨bA, oA, u, bv, rfl, c0, c1, c2, c3, c4, c5, hu, hbv⟩ := (HV.o.ext hext).at_ hlt;have HS := hid (a9G (b3W loop) l hlt);have HNO := hid (a8L (b3W loop) l hlt);have HC := b0k (loop : Int) (fun _ _ => false) l[k] k _ u bv wr (.inr (by omega)) hu hbv (fun h9 hn => (b7A h9 hn).elim)
       rw [a9J] at HC;have HC := hid HC;generalize b3W loop l[k] k = r at *;generalize l[k] = x at *;obtain ⟨op, ins, kind, fa, a, body⟩ := x;simp only [Nd.op, Nd.kind, Nd.fa, Nd.a, Nd.ins, Nd.body] at c0 c1 c2 c3 c4 c5 hu hbv HC;obtain ⟨Au, cu, rfl⟩ := hu.form;obtain ⟨Ab, cb, rfl⟩ := hbv.form;clear hext hlt hk hu hbv;rw [HP.o, Bool.true_and] at HS
       go_wp2_with fail
       refine HC.o.mono ?_;rintro e w2 ⟨rfl, he2⟩;have HX2 := hid (HE.o.trans he2);clear he2 c0 c1 c2 c3 c4 c5
       cases r with
       | true =>
        go_wp2
        exact ⟨⟨k + 1, HLT.o, by go_num, HS.o, HX2.o⟩, by have := HLT.o; simp [intOf]; omega⟩
       | false =>
       have HF := hid (HNO.o rfl)
       go_wp2
       go_ret
       exact ⟨by rw [HF.o]; rfl, HX2.o⟩
     obtain rfl : k = l.length := by omega
     have q1 : ¬ (l.length : Int) < (l.length : Int) := by omega
     rw [List.take_length] at HP;clear hext
     go_wp2
     go_ret
     exact ⟨by rw [HP.o]; rfl, HE.o⟩
   rw [decide_eq_false h2, Bool.false_and, Bool.and_false];have g1 : ¬ (l.length : Int) < 1 := by omega
   have g2 : (32 : Int) < (l.length : Int) := by omega
   clear h1 h2
   go_enter Tryz.func85, Tryz.ntmps85
   go_wp2
   go_ret
   exact ⟨rfl, Ext.refl _⟩
 rw [decide_eq_false h1, Bool.false_and];have g1 : (l.length : Int) < 1 := by omega
 clear h1
 go_enter Tryz.func85, Tryz.ntmps85
 go_wp2
 go_ret
 exact ⟨rfl, Ext.refl _⟩
theorem a6C (d : Nat) (v : Value) (l : List Nd) (out : Int) (w : World) (hv : a00 d w v l) :
 Calls Tryz.prog 20 #[gAg v out] w fun e w' => e = .returned (.bool (gOk (l, out))) ∧ Ext w w' := by
 obtain ⟨A, c, rfl⟩ := hv.form;have HX0 := hid ((Ext.refl w).alloc (gCs (.slice A l.length c) out));have HB0 := hid (Blk.new w 24 #[.slice A l.length c, .int .i64 out]);have HV := hid (hv.ext HX0.o);have HG := hid (show gOk (l, out) = ((decide (1 ≤ l.length) && (decide (l.length ≤ 32) && each a5i l 0)) && (decide (0 ≤ out) && (decide (out < (l.length : Int)) && decide (loops l ≤ 1)))) from rfl);generalize gOk (l, out) = R at *;clear hv
 go_enter Tryz.func20, Tryz.ntmps20
 go_upto_region 1 with fail
 generalize w.heap.size = p at *;generalize w.alloc (gCs (.slice A l.length c) out) = w0 at *;have c0 := HB0.o.c0;have c1 := HB0.o.c1
 by_cases h1 : 1 ≤ l.length
 case neg =>
  have HE := hid (show R = false by rw [HG.o, decide_eq_false h1]; rfl)
  have g1 : (l.length : Int) < 1 := by omega
  clear h1
  go_wp2
  go_ret
  exact ⟨by rw [HE.o]; rfl, HX0.o⟩
 by_cases h2 : l.length ≤ 32
 case neg =>
  have HE := hid (show R = false by rw [HG.o, decide_eq_false h2]; simp)
  have g1 : ¬ (l.length : Int) < 1 := by omega
  have g2 : (32 : Int) < (l.length : Int) := by omega
  clear h1 h2
  go_wp2
  go_ret
  exact ⟨by rw [HE.o]; rfl, HX0.o⟩
 by_cases h3 : 0 ≤ out
 case neg =>
  have HE := hid (show R = false by rw [HG.o, decide_eq_false h3]; simp)
  have g1 : ¬ (l.length : Int) < 1 := by omega
  have g2 : ¬ (32 : Int) < (l.length : Int) := by omega
  have g3 : out < 0 := by omega
  clear h1 h2 h3
  go_wp2
  go_ret
  exact ⟨by rw [HE.o]; rfl, HX0.o⟩
 by_cases h4 : out < (l.length : Int)
 case neg =>
  have HE := hid (show R = false by rw [HG.o, decide_eq_false h4]; simp)
  have g1 : ¬ (l.length : Int) < 1 := by omega
  have g2 : ¬ (32 : Int) < (l.length : Int) := by omega
  have g3 : ¬ out < 0 := by omega
  have g4 : (l.length : Int) ≤ out := by omega
  clear h1 h2 h3 h4
  go_wp2
  go_ret
  exact ⟨by rw [HE.o]; rfl, HX0.o⟩
 rw [decide_eq_true h1, decide_eq_true h2, decide_eq_true h3, decide_eq_true h4, Bool.true_and, Bool.true_and, Bool.true_and, Bool.true_and] at HG;have g1 : ¬ (l.length : Int) < 1 := by omega
 have g2 : ¬ (32 : Int) < (l.length : Int) := by omega
 have g3 : ¬ out < 0 := by omega
 have g4 : ¬ (l.length : Int) ≤ out := by omega
 have H2 := hid h2;clear h1 h2 h3 h4
 go_wp2
 clear c0 c1 g3 g4
 go_loopw [3, 4] (fun ov iv wr => ∃ k : Nat, k ≤ l.length ∧ iv = .int .i64 (k : Int) ∧ ov = .int .i64 (loops (l.take k) : Int) ∧ each a5i (l.take k) 0 = true ∧ Ext w0 wr) (fun _ iv _ => l.length - (intOf iv).toNat)
 case atStart => exact ⟨0, Nat.zero_le _, rfl, rfl, rfl, Ext.refl _⟩
 case round =>
 obtain ⟨k, hk, rfl, rfl, hp, hext⟩ := hrel;have HP := hid hp;have HE := hid hext;have hll := a9H l k;have hb := HB0.o.ext hext;have c0 := hb.c0;clear hp hb
 by_cases hlt : k < l.length
 · have q1 : (k : Int) < (l.length : Int) := by omega
   have q0 : 0 ≤ (k : Int) := by omega
   have q1n : k < l.length := hlt;have HLT := hid hlt;have hk32 : k ≤ 32 := by have := H2.o; omega
   obtain ⟨bA, oA, u, bv, rfl, e0, e1, e2, e3, e4, e5, hu, hbv⟩ := (HV.o.ext hext).at_ hlt;have HLS := hid (b1Q l hlt);have HS := hid (a9G a5i l hlt);have HNO := hid (a8L a5i l hlt);have HC := b0k (-1) (fun n i => a2i n.body i) l[k] k _ u bv wr (.inl rfl) hu hbv (fun _ _ W he => b3O k _ bv l[k].body W (hbv.ext he))
   rw [b1Z] at HC;have HC := hid HC;obtain ⟨n, hn⟩ : ∃ n, n = loops (l.take k) := ⟨_, rfl⟩;rw [← hn] at HLS hll ⊢;generalize a5i l[k] k = r at *;generalize l[k] = x at *;obtain ⟨op, ins, kind, fa, a, body⟩ := x;simp only [Nd.op, Nd.kind, Nd.fa, Nd.a, Nd.ins, Nd.body] at e0 e1 e2 e3 e4 e5 hu hbv HC;replace HLS := hid (show loops (l.take (k + 1)) = n + (if op = 9 then 1 else 0) from HLS.o)
   obtain ⟨Au, cu, rfl⟩ := hu.form;obtain ⟨Ab, cb, rfl⟩ := hbv.form;clear hext hlt hk hu hbv hn;rw [HP.o, Bool.true_and] at HS
   go_wp2_with fail
   refine HC.o.mono ?_;rintro e w2 ⟨rfl, he2⟩;have HX2 := hid (HE.o.trans he2);have c0 := he2.cell c0;have e0 := he2.cell e0;clear he2 e1 e2 e3 e4 e5
   cases r with
   | true =>
    by_cases h9 : op = 9
    · rw [if_pos h9] at HLS
      subst h9
      go_wp2
      exact ⟨⟨k + 1, HLT.o, by go_num, by rw [HLS.o]; go_num, HS.o, HX2.o⟩, by have := HLT.o; simp [intOf]; omega⟩
    rw [if_neg h9] at HLS
    go_wp2
    exact ⟨⟨k + 1, HLT.o, by go_num, by rw [HLS.o]; rfl, HS.o, HX2.o⟩, by have := HLT.o; simp [intOf]; omega⟩
   | false =>
   have HF := hid (show R = false by rw [HG.o, HNO.o rfl]; rfl)
   go_wp2
   go_ret
   exact ⟨by rw [HF.o]; rfl, HX0.o.trans HX2.o⟩
 obtain rfl : k = l.length := by omega
 have q1 : ¬ (l.length : Int) < (l.length : Int) := by omega
 rw [List.take_length] at HP ⊢;rw [HP.o, Bool.true_and] at HG;clear hext hll;generalize loops l = n at *
 by_cases h1 : n ≤ 1
 · have HF := hid (show R = true by rw [HG.o, decide_eq_true h1])
   have q2 : (n : Int) ≤ 1 := by omega
   clear h1
   go_wp2
   go_ret
   exact ⟨by rw [HF.o]; rfl, HX0.o.trans HE.o⟩
 have HF := hid (show R = false by rw [HG.o, decide_eq_false h1])
 have q2 : ¬ (n : Int) ≤ 1 := by omega
 clear h1
 go_wp2
 go_ret
 exact ⟨by rw [HF.o]; rfl, HX0.o.trans HE.o⟩
end Go.Proofs.YtdkejfjcchlnpaaGreat
namespace Go.Ox.Fr
open Go.Ox.Gr Go.Ox.Pl Go.Proofs.YtdkejfjcchlnpaaGreat Go.Proofs.YtdkejfjcchlnpaaGreat.Mo
def a7l (g : G) (q : P2) (m : Mom.M) : Bool := gOk g && ((gNd g q).isSome && Mom.ok m)
theorem a4V {g : G} {q : P2} {m : Mom.M} : a7l g q m = true ↔ may g q = 0 ∧ Mom.ok m = true := by
 unfold a7l may
 cases gOk g <;> cases (gNd g q).isSome <;> cases Mom.ok m <;> simp
theorem b3P (g : G) (L : List Cnt.S) (q : P2) (m : Mom.M) : a2o g L q m = (a7l g q m && !Mom.a0J (comes g L q (a7p false q m)) m) := by
 unfold a2o
 by_cases h : a7l g q m = true
 · rw [if_pos (a4V.1 h), h]; rfl
 rw [if_neg (fun e => h (a4V.2 e))]
 have : a7l g q m = false := by simpa using h
 rw [this]; rfl
theorem due_eq (g : G) (L : List Cnt.S) (q : P2) (m : Mom.M) : due g L q m = (a7l g q m && !Mom.a0J (comes g L q (a7p true q m)) m) := by
 unfold due
 by_cases h : a7l g q m = true
 · rw [if_pos (a4V.1 h), h]; rfl
 rw [if_neg (fun e => h (a4V.2 e))]
 have : a7l g q m = false := by simpa using h
 rw [this]; rfl
end Go.Ox.Fr
namespace Go.Proofs.YtdkejfjcchlnpaaGreat
open Go.RowKit Go.Ox Go.Ox.Gr Mo Ct
attribute [local irreducible] RE OE a00
theorem b0l (d : Nat) (v : Value) (g : G) (q : Pl.P2) (m : Mom.M) (w : World) (hv : a00 d w v g.1) :
 Calls Tryz.prog 8 #[gAg v g.2, plV q, mV m] w fun e w' => e = .returned (.bool (Fr.a7l g q m)) ∧ Ext w w' := by
 have HCK := hid (fun W (h : Ext w W) => a6C d v g.1 g.2 W (hv.ext h))
 have HPC := hid (fun (hok : gOk g = true) W (h : Ext w W) => a4r d v g q W (hv.ext h) hok)
 have HCM := hid (fun W => Mo.a13 m W)
 have HMB := hid (show Fr.a7l g q m = (gOk g && ((gNd g q).isSome && Mom.ok m)) from rfl);obtain ⟨l, out⟩ := g;simp only at HCK hv;generalize Fr.a7l (l, out) q m = R at *;generalize (gNd (l, out) q).isSome = sq at *;generalize gOk (l, out) = ok at *;generalize Mom.ok m = om at *;obtain ⟨A, c, rfl⟩ := hv.form;obtain ⟨q1, q2⟩ := q;obtain ⟨m1, m2⟩ := m;have HX := hid (show Ext w (((w.alloc (.cells #[.slice A l.length c, .int .i64 out] 24)).alloc (.cells #[.int .i64 q1, .int .i64 q2] 27)).alloc (.cells #[.int .i64 m1, .int .i64 m2] 29)) from a0g [(#[.slice A l.length c, .int .i64 out], 24), (#[.int .i64 q1, .int .i64 q2], 27), (#[.int .i64 m1, .int .i64 m2], 29)] w);have HB0 := hid (show Blk (((w.alloc (.cells #[.slice A l.length c, .int .i64 out] 24)).alloc (.cells #[.int .i64 q1, .int .i64 q2] 27)).alloc (.cells #[.int .i64 m1, .int .i64 m2] 29)) (w.heap.size) 24 #[.slice A l.length c, .int .i64 out] from a05 [(#[.slice A l.length c, .int .i64 out], 24), (#[.int .i64 q1, .int .i64 q2], 27), (#[.int .i64 m1, .int .i64 m2], 29)] w 0 _ _ rfl);have HB1 := hid (show Blk (((w.alloc (.cells #[.slice A l.length c, .int .i64 out] 24)).alloc (.cells #[.int .i64 q1, .int .i64 q2] 27)).alloc (.cells #[.int .i64 m1, .int .i64 m2] 29)) (w.heap.size + 1) 27 #[.int .i64 q1, .int .i64 q2] from a05 [(#[.slice A l.length c, .int .i64 out], 24), (#[.int .i64 q1, .int .i64 q2], 27), (#[.int .i64 m1, .int .i64 m2], 29)] w 1 _ _ rfl);have HB2 := hid (show Blk (((w.alloc (.cells #[.slice A l.length c, .int .i64 out] 24)).alloc (.cells #[.int .i64 q1, .int .i64 q2] 27)).alloc (.cells #[.int .i64 m1, .int .i64 m2] 29)) (w.heap.size + 1 + 1) 29 #[.int .i64 m1, .int .i64 m2] from a05 [(#[.slice A l.length c, .int .i64 out], 24), (#[.int .i64 q1, .int .i64 q2], 27), (#[.int .i64 m1, .int .i64 m2], 29)] w 2 _ _ rfl);clear hv
 go_enter Tryz.func8, Tryz.ntmps8
 go_upto_region 1 with fail
 generalize w.heap.size = bn at *;generalize ((w.alloc (.cells #[.slice A l.length c, .int .i64 out] 24)).alloc (.cells #[.int .i64 q1, .int .i64 q2] 27)).alloc (.cells #[.int .i64 m1, .int .i64 m2] 29) = w0 at *;have c00 := HB0.o.c0;have c01 := HB0.o.c1;have c10 := HB1.o.c0;have c11 := HB1.o.c1;have c20 := HB2.o.c0;have c21 := HB2.o.c1
 go_wp2_with fail
 refine (HCK.o w0 HX.o).mono ?_;rintro e w1 ⟨rfl, he⟩;clear c00 c01 c10 c11 c20 c21;have HX := hid (HX.o.trans he);have HB0 := hid (HB0.o.ext he);have HB1 := hid (HB1.o.ext he);have HB2 := hid (HB2.o.ext he);clear he
 cases ok with
 | false =>
  have HR := hid (show R = false from HMB.o)
  go_wp2
  go_ret
  exact ⟨by rw [HR.o]; rfl, HX.o⟩
 | true =>
 have c00 := HB0.o.c0;have c01 := HB0.o.c1;have c10 := HB1.o.c0;have c11 := HB1.o.c1;have c20 := HB2.o.c0;have c21 := HB2.o.c1
 go_wp2_with fail
 refine (HPC.o (by first | rfl | trivial) w1 HX.o).mono ?_
 rintro e w2 ⟨rfl, he⟩;clear c00 c01 c10 c11 c20 c21;have HX := hid (HX.o.trans he);have HB0 := hid (HB0.o.ext he);have HB1 := hid (HB1.o.ext he);have HB2 := hid (HB2.o.ext he);clear he
 cases sq with
 | false =>
  have HR := hid (show R = false from HMB.o)
  go_wp2
  go_ret
  exact ⟨by rw [HR.o]; rfl, HX.o⟩
 | true =>
 have c00 := HB0.o.c0;have c01 := HB0.o.c1;have c10 := HB1.o.c0;have c11 := HB1.o.c1;have c20 := HB2.o.c0;have c21 := HB2.o.c1
 go_wp2_with fail
 refine (HCM.o w2).mono ?_;rintro e w3 ⟨rfl, he⟩;clear c00 c01 c10 c11 c20 c21;have HX := hid (HX.o.trans he);have HB0 := hid (HB0.o.ext he);have HB1 := hid (HB1.o.ext he);have HB2 := hid (HB2.o.ext he);clear he;have HR := hid (show R = om from HMB.o)
 go_wp2
 go_ret
 exact ⟨by rw [HR.o]; rfl, HX.o⟩
theorem a9n (d : Nat) (v : Value) (g : G) (u : Value) (L : List Cnt.S) (q : Pl.P2) (m : Mom.M) (w : World) (hv : a00 d w v g.1) (hn : (gPl g).length ≤ 20) (hu : RE w u L) (hl : L.length ≤ 1000000) :
 Calls Tryz.prog 18 #[gAg v g.2, u, plV q, mV m] w fun e w' => e = .returned (.bool (Fr.a2o g L q m)) ∧ Ext w w' := by
 have HMY := hid (fun W (h : Ext w W) => b0l d v g q m W (hv.ext h))
 have HCO := hid (fun (hb : Fr.a7l g q m = true) W (h : Ext w W) => a4s d v g u L q false m W (hv.ext h) (by unfold Fr.a7l at hb; simp at hb; exact hb.1) hn (by unfold Fr.a7l at hb; simp at hb; exact hb.2.1) (hu.ext h) hl)
 have HCV := hid (fun x W (h : RP W x (Fr.comes g L q (Fr.a7p false q m))) => Mo.a5N x (Fr.comes g L q (Fr.a7p false q m)) m W h (by have := Fr.a2n g L q (Fr.a7p false q m); omega))
 have HDF := hid (Fr.b3P g L q m);obtain ⟨l, out⟩ := g;simp only at hv;generalize Fr.a2o (l, out) L q m = R at *;generalize Fr.comes (l, out) L q (Fr.a7p false q m) = CL at *;generalize Fr.a7l (l, out) q m = MB at *;generalize Mom.a0J CL m = CV at *;obtain ⟨A, c, rfl⟩ := hv.form;obtain ⟨q1, q2⟩ := q;obtain ⟨m1, m2⟩ := m;have HX := hid (show Ext w (((w.alloc (.cells #[.slice A l.length c, .int .i64 out] 24)).alloc (.cells #[.int .i64 q1, .int .i64 q2] 27)).alloc (.cells #[.int .i64 m1, .int .i64 m2] 29)) from a0g [(#[.slice A l.length c, .int .i64 out], 24), (#[.int .i64 q1, .int .i64 q2], 27), (#[.int .i64 m1, .int .i64 m2], 29)] w);have HB0 := hid (show Blk (((w.alloc (.cells #[.slice A l.length c, .int .i64 out] 24)).alloc (.cells #[.int .i64 q1, .int .i64 q2] 27)).alloc (.cells #[.int .i64 m1, .int .i64 m2] 29)) (w.heap.size) 24 #[.slice A l.length c, .int .i64 out] from a05 [(#[.slice A l.length c, .int .i64 out], 24), (#[.int .i64 q1, .int .i64 q2], 27), (#[.int .i64 m1, .int .i64 m2], 29)] w 0 _ _ rfl);have HB1 := hid (show Blk (((w.alloc (.cells #[.slice A l.length c, .int .i64 out] 24)).alloc (.cells #[.int .i64 q1, .int .i64 q2] 27)).alloc (.cells #[.int .i64 m1, .int .i64 m2] 29)) (w.heap.size + 1) 27 #[.int .i64 q1, .int .i64 q2] from a05 [(#[.slice A l.length c, .int .i64 out], 24), (#[.int .i64 q1, .int .i64 q2], 27), (#[.int .i64 m1, .int .i64 m2], 29)] w 1 _ _ rfl);have HB2 := hid (show Blk (((w.alloc (.cells #[.slice A l.length c, .int .i64 out] 24)).alloc (.cells #[.int .i64 q1, .int .i64 q2] 27)).alloc (.cells #[.int .i64 m1, .int .i64 m2] 29)) (w.heap.size + 1 + 1) 29 #[.int .i64 m1, .int .i64 m2] from a05 [(#[.slice A l.length c, .int .i64 out], 24), (#[.int .i64 q1, .int .i64 q2], 27), (#[.int .i64 m1, .int .i64 m2], 29)] w 2 _ _ rfl);clear hv hn hl hu
 go_enter Tryz.func18, Tryz.ntmps18
 go_upto_region 1 with fail
 generalize w.heap.size = bn at *;generalize ((w.alloc (.cells #[.slice A l.length c, .int .i64 out] 24)).alloc (.cells #[.int .i64 q1, .int .i64 q2] 27)).alloc (.cells #[.int .i64 m1, .int .i64 m2] 29) = w0 at *;have c00 := HB0.o.c0;have c01 := HB0.o.c1;have c10 := HB1.o.c0;have c11 := HB1.o.c1;have c20 := HB2.o.c0;have c21 := HB2.o.c1;have HM9 := hid (fun W (h : Ext w0 W) => HMY.o W (HX.o.trans h))
 cases MB with
 | false =>
  have HR := hid (show R = false from HDF.o);refine yx ?_;refine yl2 c00 c01 ?_;refine yl2 c10 c11 ?_;refine yl2 c20 c21 ?_;refine yc3 (.bool false) (fun w' hR => HM9.o w' hR) ?_
  refine ya1 ?_
  iterate 8 (refine a4M rfl rfl (by first | exact .inl rfl | exact .inr rfl) ?_)
  refine ya1 ?_;refine yl0 ?_;refine a02 ?_;intro wz hz hS
  iterate 7 (rintro _ rfl)
  dsimp only [a0w];go_simp;have hz : Ext w0 wz := hz
  go_wp2
  go_ret
  exact ⟨by rw [HR.o]; rfl, HX.o.trans hz⟩
 | true =>
 have HC9 := hid (fun W (h : Ext w0 W) => HCO.o rfl W (HX.o.trans h))
 have HR := hid (show R = !CV from HDF.o);refine yx ?_;refine yl2 c00 c01 ?_;refine yl2 c10 c11 ?_;refine yl2 c20 c21 ?_;refine yc3 (.bool true) (fun w' hR => HM9.o w' hR) ?_
 refine ya1 ?_;refine yl2 c00 c01 ?_;refine ya1 ?_;refine yl2 c10 c11 ?_;refine yl2 c20 c21 ?_;refine a0a (fun v w2 => RE w2 v CL) rfl rfl (a03 rfl) rfl (by first | exact (fun _ _ _ h k => RE.ext h k) | exact (fun _ _ _ h k => RE.extD h k)) ?_ ?_
 · intro a w' hR h1 h2 h3 h4 K hK
   have e1 : _ = _ := h1;have e2 : _ = _ := h2;have e3 : _ = _ := h3;have e4 : _ = _ := h4;go_simp;refine (HC9.o w' hR).mono ?_;rintro e w2 ⟨v9, rfl, ho9, he⟩;exact hK _ _ he ho9.re
 refine yl2 c20 c21 ?_;refine a0a (fun v _ => v = .bool CV) rfl rfl (a03 rfl) rfl (by exact a0h) ?_ ?_
 · intro a w' hR h1 h2 K hK
   obtain ⟨x, ex, fx⟩ : ∃ x, a.tmps.getD 18 undef = x ∧ (fun v w2 => RE w2 v CL) x w' := ⟨_, rfl, h1⟩
   have e2 : _ = _ := h2;go_simp;refine (HCV.o x w' (RE.rp fx)).mono ?_;rintro e w2 ⟨rfl, he⟩;exact hK _ _ he rfl
 refine yl0 ?_;refine ya1 ?_;refine yl0 ?_;refine a02 ?_;intro wz hz hS
 iterate 9 (rintro _ rfl)
 iterate 1 (intro _ hz; clear hz)
 iterate 5 (rintro _ rfl)
 dsimp only [a0w];go_simp;have hz : Ext w0 wz := hz
 go_wp2
 go_ret
 exact ⟨by rw [HR.o]; rfl, HX.o.trans hz⟩
theorem b5o (d : Nat) (v : Value) (g : G) (u : Value) (L : List Cnt.S) (q : Pl.P2) (m : Mom.M) (w : World) (hv : a00 d w v g.1) (hn : (gPl g).length ≤ 20) (hu : RE w u L) (hl : L.length ≤ 1000000) :
 Calls Tryz.prog 19 #[gAg v g.2, u, plV q, mV m] w fun e w' => e = .returned (.bool (Fr.due g L q m)) ∧ Ext w w' := by
 have HMY := hid (fun W (h : Ext w W) => b0l d v g q m W (hv.ext h))
 have HCO := hid (fun (hb : Fr.a7l g q m = true) W (h : Ext w W) => a4s d v g u L q true m W (hv.ext h) (by unfold Fr.a7l at hb; simp at hb; exact hb.1) hn (by unfold Fr.a7l at hb; simp at hb; exact hb.2.1) (hu.ext h) hl)
 have HCV := hid (fun x W (h : RP W x (Fr.comes g L q (Fr.a7p true q m))) => Mo.a5N x (Fr.comes g L q (Fr.a7p true q m)) m W h (by have := Fr.a2n g L q (Fr.a7p true q m); omega))
 have HDF := hid (Fr.due_eq g L q m);obtain ⟨l, out⟩ := g;simp only at hv;generalize Fr.due (l, out) L q m = R at *;generalize Fr.comes (l, out) L q (Fr.a7p true q m) = CL at *;generalize Fr.a7l (l, out) q m = MB at *;generalize Mom.a0J CL m = CV at *;obtain ⟨A, c, rfl⟩ := hv.form;obtain ⟨q1, q2⟩ := q;obtain ⟨m1, m2⟩ := m;have HX := hid (show Ext w (((w.alloc (.cells #[.slice A l.length c, .int .i64 out] 24)).alloc (.cells #[.int .i64 q1, .int .i64 q2] 27)).alloc (.cells #[.int .i64 m1, .int .i64 m2] 29)) from a0g [(#[.slice A l.length c, .int .i64 out], 24), (#[.int .i64 q1, .int .i64 q2], 27), (#[.int .i64 m1, .int .i64 m2], 29)] w);have HB0 := hid (show Blk (((w.alloc (.cells #[.slice A l.length c, .int .i64 out] 24)).alloc (.cells #[.int .i64 q1, .int .i64 q2] 27)).alloc (.cells #[.int .i64 m1, .int .i64 m2] 29)) (w.heap.size) 24 #[.slice A l.length c, .int .i64 out] from a05 [(#[.slice A l.length c, .int .i64 out], 24), (#[.int .i64 q1, .int .i64 q2], 27), (#[.int .i64 m1, .int .i64 m2], 29)] w 0 _ _ rfl);have HB1 := hid (show Blk (((w.alloc (.cells #[.slice A l.length c, .int .i64 out] 24)).alloc (.cells #[.int .i64 q1, .int .i64 q2] 27)).alloc (.cells #[.int .i64 m1, .int .i64 m2] 29)) (w.heap.size + 1) 27 #[.int .i64 q1, .int .i64 q2] from a05 [(#[.slice A l.length c, .int .i64 out], 24), (#[.int .i64 q1, .int .i64 q2], 27), (#[.int .i64 m1, .int .i64 m2], 29)] w 1 _ _ rfl);have HB2 := hid (show Blk (((w.alloc (.cells #[.slice A l.length c, .int .i64 out] 24)).alloc (.cells #[.int .i64 q1, .int .i64 q2] 27)).alloc (.cells #[.int .i64 m1, .int .i64 m2] 29)) (w.heap.size + 1 + 1) 29 #[.int .i64 m1, .int .i64 m2] from a05 [(#[.slice A l.length c, .int .i64 out], 24), (#[.int .i64 q1, .int .i64 q2], 27), (#[.int .i64 m1, .int .i64 m2], 29)] w 2 _ _ rfl);clear hv hn hl hu
 go_enter Tryz.func19, Tryz.ntmps19
 go_upto_region 1 with fail
 generalize w.heap.size = bn at *;generalize ((w.alloc (.cells #[.slice A l.length c, .int .i64 out] 24)).alloc (.cells #[.int .i64 q1, .int .i64 q2] 27)).alloc (.cells #[.int .i64 m1, .int .i64 m2] 29) = w0 at *;have c00 := HB0.o.c0;have c01 := HB0.o.c1;have c10 := HB1.o.c0;have c11 := HB1.o.c1;have c20 := HB2.o.c0;have c21 := HB2.o.c1;have HM9 := hid (fun W (h : Ext w0 W) => HMY.o W (HX.o.trans h))
 cases MB with
 | false =>
  have HR := hid (show R = false from HDF.o);refine yx ?_;refine yl2 c00 c01 ?_;refine yl2 c10 c11 ?_;refine yl2 c20 c21 ?_;refine yc3 (.bool false) (fun w' hR => HM9.o w' hR) ?_
  refine ya1 ?_
  iterate 8 (refine a4M rfl rfl (by first | exact .inl rfl | exact .inr rfl) ?_)
  refine ya1 ?_;refine yl0 ?_;refine a02 ?_;intro wz hz hS
  iterate 7 (rintro _ rfl)
  dsimp only [a0w];go_simp;have hz : Ext w0 wz := hz
  go_wp2
  go_ret
  exact ⟨by rw [HR.o]; rfl, HX.o.trans hz⟩
 | true =>
 have HC9 := hid (fun W (h : Ext w0 W) => HCO.o rfl W (HX.o.trans h))
 have HR := hid (show R = !CV from HDF.o);refine yx ?_;refine yl2 c00 c01 ?_;refine yl2 c10 c11 ?_;refine yl2 c20 c21 ?_;refine yc3 (.bool true) (fun w' hR => HM9.o w' hR) ?_
 refine ya1 ?_;refine yl2 c00 c01 ?_;refine ya1 ?_;refine yl2 c10 c11 ?_;refine yl2 c20 c21 ?_;refine a0a (fun v w2 => RE w2 v CL) rfl rfl (a03 rfl) rfl (by first | exact (fun _ _ _ h k => RE.ext h k) | exact (fun _ _ _ h k => RE.extD h k)) ?_ ?_
 · intro a w' hR h1 h2 h3 h4 K hK
   have e1 : _ = _ := h1;have e2 : _ = _ := h2;have e3 : _ = _ := h3;have e4 : _ = _ := h4;go_simp;refine (HC9.o w' hR).mono ?_;rintro e w2 ⟨v9, rfl, ho9, he⟩;exact hK _ _ he ho9.re
 refine yl2 c20 c21 ?_;refine a0a (fun v _ => v = .bool CV) rfl rfl (a03 rfl) rfl (by exact a0h) ?_ ?_
 · intro a w' hR h1 h2 K hK
   obtain ⟨x, ex, fx⟩ : ∃ x, a.tmps.getD 18 undef = x ∧ (fun v w2 => RE w2 v CL) x w' := ⟨_, rfl, h1⟩
   have e2 : _ = _ := h2;go_simp;refine (HCV.o x w' (RE.rp fx)).mono ?_;rintro e w2 ⟨rfl, he⟩;exact hK _ _ he rfl
 refine yl0 ?_;refine ya1 ?_;refine yl0 ?_;refine a02 ?_;intro wz hz hS
 iterate 9 (rintro _ rfl)
 iterate 1 (intro _ hz; clear hz)
 iterate 5 (rintro _ rfl)
 dsimp only [a0w];go_simp;have hz : Ext w0 wz := hz
 go_wp2
 go_ret
 exact ⟨by rw [HR.o]; rfl, HX.o.trans hz⟩
end Go.Proofs.YtdkejfjcchlnpaaGreat
namespace Go.Proofs.YtdkejfjcchlnpaaGreat
open Go.RowKit Go.Ox Go.Ox.Gr Mo Ct
attribute [local irreducible] RE OE a00
theorem b3Q (A : Option Addr) (l : List Nd) (c : Nat) (out : Int) (q : Pl.P2) (w : World) :
 Calls Tryz.prog 42 #[gAg (.slice A l.length c) out, .pointer none, plV q, .func (.func 43) #[] #[]] w fun e w' => e = .returned (.slice none 0 0) ∧ Ext w w' := by
 obtain ⟨q1, q2⟩ := q;have HX := hid (show Ext w ((w.alloc (.cells #[.slice A l.length c, .int .i64 out] 24)).alloc (.cells #[.int .i64 q1, .int .i64 q2] 27)) from a0g [(#[.slice A l.length c, .int .i64 out], 24), (#[.int .i64 q1, .int .i64 q2], 27)] w);have HB0 := hid (show Blk ((w.alloc (.cells #[.slice A l.length c, .int .i64 out] 24)).alloc (.cells #[.int .i64 q1, .int .i64 q2] 27)) (w.heap.size) 24 #[.slice A l.length c, .int .i64 out] from a05 [(#[.slice A l.length c, .int .i64 out], 24), (#[.int .i64 q1, .int .i64 q2], 27)] w 0 _ _ rfl);have HB1 := hid (show Blk ((w.alloc (.cells #[.slice A l.length c, .int .i64 out] 24)).alloc (.cells #[.int .i64 q1, .int .i64 q2] 27)) (w.heap.size + 1) 27 #[.int .i64 q1, .int .i64 q2] from a05 [(#[.slice A l.length c, .int .i64 out], 24), (#[.int .i64 q1, .int .i64 q2], 27)] w 1 _ _ rfl)
 go_enter Tryz.func42, Tryz.ntmps42
 go_upto_region 1 with fail
 generalize w.heap.size = bn at *;generalize (w.alloc (.cells #[.slice A l.length c, .int .i64 out] 24)).alloc (.cells #[.int .i64 q1, .int .i64 q2] 27) = w0 at *
 go_wp2_with fail
 refine (b1k _).mono ?_;rintro e w1 ⟨rfl, rfl⟩
 go_wp2
 go_loopw [9, 19] (fun ov kv wr => ov = .slice none 0 0 ∧ kv = .int .i64 0 ∧ Ext w0 wr) (fun _ _ _ => 0)
 case atStart => exact ⟨rfl, rfl, Ext.refl _⟩
 case round =>
 obtain ⟨rfl, rfl, hx⟩ := hrel;have HG := hid (HX.o.trans hx);clear hx
 go_wp2
 go_ret
 exact ⟨rfl, HG.o⟩
theorem at_nil (d : Nat) (v : Value) (g : G) (q : Pl.P2) (w : World) (hv : a00 d w v g.1) :
 Calls Tryz.prog 17 #[gAg v g.2, .pointer none, plV q] w fun e w' => ∃ u, e = .returned (.tuple #[u, .int .i64 (Fr.may g q)]) ∧ RP w' u ([] : List Mom.M) ∧ Ext w w' := by
 have HMY := hid (fun W (h : Ext w W) => a3Y d v g q W (hv.ext h))
 have HFW := hid (fun W => a8q (.slice none 0 0) [] W (RE.rp (RE.a2q _)) (by simp) rfl)
 have HRN := hid (show Mom.a1v [] = [] from rfl);rw [HRN.o] at HFW;obtain ⟨l, out⟩ := g;simp only at hv;generalize Fr.may (l, out) q = MY at *;obtain ⟨A, c, rfl⟩ := hv.form;have HCO := hid (fun W => b3Q A l c out q W)
 obtain ⟨q1, q2⟩ := q;have HX := hid (show Ext w ((w.alloc (.cells #[.slice A l.length c, .int .i64 out] 24)).alloc (.cells #[.int .i64 q1, .int .i64 q2] 27)) from a0g [(#[.slice A l.length c, .int .i64 out], 24), (#[.int .i64 q1, .int .i64 q2], 27)] w);have HB0 := hid (show Blk ((w.alloc (.cells #[.slice A l.length c, .int .i64 out] 24)).alloc (.cells #[.int .i64 q1, .int .i64 q2] 27)) (w.heap.size) 24 #[.slice A l.length c, .int .i64 out] from a05 [(#[.slice A l.length c, .int .i64 out], 24), (#[.int .i64 q1, .int .i64 q2], 27)] w 0 _ _ rfl);have HB1 := hid (show Blk ((w.alloc (.cells #[.slice A l.length c, .int .i64 out] 24)).alloc (.cells #[.int .i64 q1, .int .i64 q2] 27)) (w.heap.size + 1) 27 #[.int .i64 q1, .int .i64 q2] from a05 [(#[.slice A l.length c, .int .i64 out], 24), (#[.int .i64 q1, .int .i64 q2], 27)] w 1 _ _ rfl);clear hv
 go_enter Tryz.func17, Tryz.ntmps17
 go_upto_region 1 with fail
 generalize w.heap.size = bn at *;generalize (w.alloc (.cells #[.slice A l.length c, .int .i64 out] 24)).alloc (.cells #[.int .i64 q1, .int .i64 q2] 27) = w0 at *;have c00 := HB0.o.c0;have c01 := HB0.o.c1;have c10 := HB1.o.c0;have c11 := HB1.o.c1
 go_wp2_with fail
 refine (HMY.o w0 HX.o).mono ?_;rintro e w1 ⟨rfl, he⟩;clear c00 c01 c10 c11;have HX := hid (HX.o.trans he);have HB0 := hid (HB0.o.ext he);have HB1 := hid (HB1.o.ext he);clear he
 by_cases hm : MY = 0
 · subst hm
   have c00 := HB0.o.c0;have c01 := HB0.o.c1;have c10 := HB1.o.c0;have c11 := HB1.o.c1
   go_wp2_with fail
   refine (HCO.o w1).mono ?_;rintro e w2 ⟨rfl, he⟩;clear c00 c01 c10 c11;have HX := hid (HX.o.trans he);clear he
   go_wp2_with fail
   refine (HFW.o w2).mono ?_;rintro e w3 ⟨u3, rfl, hu3, he⟩;have HX := hid (HX.o.trans he);have HU := hid hu3;clear hu3 he
   go_wp2
   go_ret2
   exact ⟨_, rfl, HU.o, HX.o⟩
 have t1 : (MY != 0) = true := by simpa using hm
 clear hm
 go_wp2
 go_ret2
 exact ⟨_, rfl, RE.rp (RE.a2q _), HX.o⟩
end Go.Proofs.YtdkejfjcchlnpaaGreat
namespace Go.Ox.Fr
open Go.Ox.Gr Go.Ox.Pl
def a5O (g : G) (m : Nat) : Bool := (a2k 4 g.1 || decide (16 < (a0b g.1).length)) || decide (20 < m)
theorem b0m {g : G} {m : Nat} (h : a5O g m = false) : Pl.a5O g = false ∧ m ≤ 20 := by
 unfold a5O at h;rw [Bool.or_eq_false_iff, Bool.or_eq_false_iff, decide_eq_false_iff_not, decide_eq_false_iff_not] at h;refine ⟨?_, by omega⟩
 show (a2k 4 g.1 || decide (20 < (a0b g.1).length)) = false;rw [h.1.1, decide_eq_false (by omega)]
 rfl
end Go.Ox.Fr
namespace Go.Proofs.YtdkejfjcchlnpaaGreat
open Go.RowKit Go.Ox Go.Ox.Gr Mo Ct
attribute [local irreducible] RE OE a00
theorem a9o (d : Nat) (v : Value) (g : G) (B : Option Addr) (m k : Nat) (w : World) (hv : a00 d w v g.1) :
 Calls Tryz.prog 7 #[gAg v g.2, .slice B m k] w fun e w' => e = .returned (.bool (Fr.a5O g m)) ∧ Ext w w' := by
 obtain ⟨l, out⟩ := g;have HD := hid (fun W (h : Ext w W) => b4J 4 0 d v l W (by omega) (by omega) (hv.ext h))
 have HPL := hid (fun (h : a2k 4 l = false) W (hW : Ext w W) => a0W d v l out W (hv.ext hW) (by have := (a90 h).1; omega) (fun n hn => by have := b2z h hn; omega))
 have HLG := hid (show Fr.a5O (l, out) m = ((a2k 4 l || decide (16 < (a0b l).length)) || decide (20 < m)) from rfl);simp only at hv;generalize Fr.a5O (l, out) m = LG at *;generalize a0b l = pls at *;obtain ⟨A, c, rfl⟩ := hv.form;have HX0 := hid ((Ext.refl w).alloc (gCs (.slice A l.length c) out));have HB0 := hid (Blk.new w 24 #[.slice A l.length c, .int .i64 out]);clear hv
 go_enter Tryz.func7, Tryz.ntmps7
 go_upto_region 1 with fail
 generalize w.heap.size = p at *;generalize w.alloc (gCs (.slice A l.length c) out) = w0 at *;have c0 := HB0.o.c0;have c1 := HB0.o.c1;obtain ⟨db, hdb⟩ : ∃ db, a2k 4 l = db := ⟨_, rfl⟩;rw [hdb] at HD HPL HLG
 cases db with
 | true =>
  go_wp2_with fail
  refine (HD.o w0 HX0.o).mono ?_;rintro e w' ⟨rfl, rfl⟩
  go_wp2
  go_ret
  exact ⟨by rw [HLG.o]; rfl, HX0.o⟩
 | false =>
 go_wp2_with fail
 refine (HD.o w0 HX0.o).mono ?_;rintro e w' ⟨rfl, rfl⟩
 go_wp2_with fail
 refine (HPL.o (by trivial) w0 HX0.o).mono ?_
 rintro e w1 ⟨u, rfl, hu, he⟩;obtain ⟨A1, k1, rfl⟩ := hu.re.form;have HX1 := hid (HX0.o.trans he);clear hu he c0 c1
 by_cases h20 : 16 < pls.length
 · have g2 : (16 : Int) < (pls.length : Int) := by omega
   have HR := hid (show LG = true from by rw [HLG.o, decide_eq_true h20]; rfl)
   clear h20
   go_wp2
   go_ret
   exact ⟨by rw [HR.o]; first | rfl | (simp; omega), HX1.o⟩
 have g2 : ¬ (16 : Int) < (pls.length : Int) := by omega
 by_cases h21 : 20 < m
 · have g3 : (20 : Int) < (m : Int) := by omega
   have HR := hid (show LG = true from by rw [HLG.o, decide_eq_true h21]; simp)
   clear h20 h21
   go_wp2
   go_ret
   exact ⟨by rw [HR.o]; first | rfl | (simp; omega), HX1.o⟩
 have g3 : ¬ (20 : Int) < (m : Int) := by omega
 have HR := hid (show LG = false from by rw [HLG.o, decide_eq_false h20, decide_eq_false h21]; rfl)
 clear h20 h21
 go_wp2
 go_ret
 exact ⟨by rw [HR.o]; first | rfl | (simp; omega), HX1.o⟩
end Go.Proofs.YtdkejfjcchlnpaaGreat
namespace Go.Proofs.YtdkejfjcchlnpaaGreat.Ct
open Go.RowKit Go.Ox Go.Shelf Mo
def a8B (L : List Cnt.S) (l : List Cnt.S) : List Cnt.S := l.foldl (fun L x => (Cnt.add L x.1 x.2).1) L
theorem adds_s (L l : List Cnt.S) (k : Nat) (h : k < l.length) : a8B L (l.take (k + 1)) = (Cnt.add (a8B L (l.take k)) l[k].1 l[k].2).1 := by
 unfold a8B;rw [List.take_succ_eq_append_getElem h, List.foldl_append]; rfl
theorem b5W (l : List Cnt.S) : a8B [] (l.take 0) = [] := rfl
theorem a7m : ∀ (l L : List Cnt.S), (a8B L l).length ≤ L.length + l.length
 | [], L => by simp [a8B]
 | x :: l, L => by
  have h1 := a7m l (Cnt.add L x.1 x.2).1;have h2 := Cnt.b75 L x.1 x.2;unfold a8B at *;rw [List.foldl_cons, List.length_cons]; omega
theorem CM.a5S {w w' : World} {g b g' : Nat} {L : List Cnt.S} (h : CM w g b L) (he : ExtG g' w w') (h1 : g ≠ g') (h2 : b ≠ g') : CM w' g b L := by
 obtain ⟨l, h3, h4⟩ := h.map;exact ⟨h.box.a5S he h1, h.ne, ⟨l, h3.at_ (he.grown.block b h3.lt (fun e => h2 (by injection e))), h4⟩, h.good⟩
section
variable {b g : Nat} {w w' a c d : World}
end
end Go.Proofs.YtdkejfjcchlnpaaGreat.Ct
namespace Go.Proofs.YtdkejfjcchlnpaaGreat
open Go.RowKit Go.Ox Go.Ox.Gr Go.Shelf Mo Ct
attribute [local irreducible] RE OE a00 a8B
theorem a8u (v : Value) (l : List Cnt.S) (w : World) (hv : RE w v l) (hl : l.length ≤ 1000) :
 Calls Tryz.prog 10 #[v] w fun e w' => ∃ g b u, e = .returned (.tuple #[.pointer (some ⟨g, 0, none⟩), u]) ∧ w.heap.size ≤ g ∧ w.heap.size ≤ b ∧ CM w' g b (a8B [] l) ∧ RE w' u (a8B [] l) ∧ Ext w w' := by
 obtain ⟨A, c, rfl⟩ := hv.form;have HV := hid hv;have HLL := hid hl;have hlb : l.length ≤ 9223372036854775807 := by omega
 clear hv hl
 go_enter Tryz.func10, Tryz.ntmps10
 go_wp2_with fail
 refine (b3b _).mono ?_;rintro e w1 ⟨g, b, rfl, hg1, hb1, hc, hx1⟩;have hbx := Blk.new w1 61 #[.slice none 0 0];have hx2 : Ext w1 (w1.alloc (.cells #[.slice none 0 0] 61)) := (Ext.refl _).alloc _;have hxm : XM (w1.alloc (.cells #[.slice none 0 0] 61)) w1.heap.size [] := ⟨⟨_, hbx, RE.a2q _⟩, Cnt.b0f⟩;have HC2 := hid (hc.ext hx2);have HXM2 := hid hxm;have HX2 := hid (hx1.trans hx2);have hlt := hc.lt;have HNE := hid (show g ≠ w1.heap.size ∧ b ≠ w1.heap.size by omega)
 have HGB := hid (show w.heap.size ≤ g ∧ w.heap.size ≤ b from ⟨hg1, hb1⟩);have HGX := hid (show w.heap.size ≤ w1.heap.size from hx1.size);clear hbx hx2 hxm hc hx1 hg1 hb1 hlt
 go_wp2
 generalize (w1.alloc (.cells #[.slice none 0 0] 61)) = w2 at *;generalize w1.heap.size = gx at *
 go_loopw [6] (fun iv wr => ∃ k : Nat, k ≤ l.length ∧ iv = .int .i64 k ∧ CM wr g b (a8B [] (l.take k)) ∧ XM wr gx (a8B [] (l.take k)) ∧ Ext w wr) (fun iv _ => l.length - (intOf iv).toNat)
 case atStart => exact ⟨0, Nat.zero_le _, rfl, by rw [b5W]; exact HC2.o, by rw [b5W]; exact HXM2.o, HX2.o⟩
 case round =>
 obtain ⟨k, hk, rfl, hc, hxm, hext⟩ := hrel;rename World => wA
 have HC := hid hc;have HXM := hid hxm;have HW := hid hext;have hk9 : k ≤ 1000 := by have := HLL.o; omega
 by_cases hlt : k < l.length
 · have g1 : (k : Int) < (l.length : Int) := by omega
   have g0 : 0 ≤ (k : Int) := by omega
   obtain ⟨bA, oA, rfl, c0, c1, c2, c3, c4⟩ := re5 (HV.o.ext HW.o) hlt;have HS := hid (adds_s [] l k hlt);have HRE := hid (HV.o.ext HW.o);have hln := a7m (l.take k) [];rw [List.length_nil, Nat.zero_add, List.length_take, Nat.min_eq_left hk] at hln;generalize a8B [] (l.take k) = L at *;obtain ⟨y, hy⟩ : ∃ y, l[k] = y := ⟨_, rfl⟩;have HY := hid hy;rw [hy] at HS c0 c1 c2 c3 c4;obtain ⟨⟨⟨y1, y2⟩, y3, y4⟩, y5⟩ := y;dsimp only at HS c0 c1 c2 c3 c4;have HA := hid (fun w h => b3D w g b L h ((y1, y2), y3, y4) y5)
   have HRA := hid (fun w h => b5j w gx L h (by omega) ((y1, y2), y3, y4) y5)
   generalize (Cnt.add L ((y1, y2), y3, y4) y5).1 = M at *;generalize (Cnt.add L ((y1, y2), y3, y4) y5).2 = q at *;clear hc hxm hext hy hln;have HCELL := hid (And.intro c0 (And.intro c1 (And.intro c2 (And.intro c3 c4))))
   go_wp2
   refine a16 [32] [] Ext (ExtM b) (fun w => CM w g b L) (by kernel_rfl) (by rfl) (by rfl) (by kernel_rfl) (by kernel_rfl) (by kernel_rfl) (fun _ _ _ x y => x.trans y) (ExtM.refl b) (fun _ _ x => ExtM.of x) (Ext.refl _).drew (fun _ _ x y => x.ext y) (HC.o) ?_
   refine ya ?_;refine yl2 c0 c1 ?_;refine ya ?_;refine yl2 c2 c3 ?_;refine ya ?_;refine yl1 c4 ?_;refine b1D (fun v _ => v = .int .i64 q) (fun w => CM w g b M) rfl (a03 rfl) rfl a0h (fun _ _ x y => x.ext y) ?_ ?_
   · intro a w' hR hS h1 h2 h3 h4 K hK
     have e1 : _ = _ := h1;have e2 : _ = _ := h2;have e3 : _ = _ := h3;have e4 : _ = _ := h4;go_simp;refine (HA.o w' hS).mono ?_;rintro e w2 ⟨rfl, hc, he⟩;exact hK _ _ he hc rfl
   refine ya ?_;refine a02 ?_;intro w4 he4 hc4
   iterate 17 (rintro _ rfl)
   dsimp only [a0w];go_simp;have he4 : ExtM b wA w4 := he4;clear c0 c1 c2 c3 c4;obtain ⟨c0, c1, c2, c3, c4⟩ := HCELL.o;have c0 := he4.cells _ _ c0;have c1 := he4.cells _ _ c1;have c2 := he4.cells _ _ c2;have c3 := he4.cells _ _ c3;have c4 := he4.cells _ _ c4;have HX4 := hid (HXM.o.a29 he4 (Ne.symm HNE.o.2));have HW4 := hid (HW.o.andM he4 HGB.o.2);have HC4 := hid hc4;clear hc4 he4
   go_wp2
   refine a16 [49] [] Ext (ExtG gx) (fun w => XM w gx L) (by kernel_rfl) (by rfl) (by rfl) (by kernel_rfl) (by kernel_rfl) (by kernel_rfl) (fun _ _ _ x y => x.trans y) (ExtG.refl gx) (fun _ _ x => ExtG.of x) (Ext.refl _).drew (fun _ _ x y => x.ext y) (HX4.o) ?_
   refine ya ?_;refine yl2 c0 c1 ?_;refine ya ?_;refine yl2 c2 c3 ?_;refine ya ?_;refine yl1 c4 ?_;refine b1D (fun v _ => v = .int .i64 q) (fun w => XM w gx M) rfl (a03 rfl) rfl a0h (fun _ _ x y => x.ext y) ?_ ?_
   · intro a w' hR hS h1 h2 h3 h4 K hK
     have e1 : _ = _ := h1;have e2 : _ = _ := h2;have e3 : _ = _ := h3;have e4 : _ = _ := h4;go_simp;refine (HRA.o w' hS).mono ?_;rintro e w2 ⟨rfl, hc, he⟩;exact hK _ _ he hc rfl
   refine ya ?_;refine a02 ?_;intro w5 he5 hx5
   iterate 17 (rintro _ rfl)
   dsimp only [a0w];go_simp;have he5 : ExtG gx w4 w5 := he5;have HC5 := hid (HC4.o.a5S he5 HNE.o.1 HNE.o.2);have HW5 := hid (HW4.o.andG he5 HGX.o);have HX5 := hid hx5;clear hx5 he5 c0 c1 c2 c3 c4
   go_wp2
   exact ⟨⟨k + 1, by omega, by go_num, by rw [HS.o]; exact HC5.o, by rw [HS.o]; exact HX5.o, HW5.o⟩, by simp [intOf]; omega⟩
 have g1 : ¬ (k : Int) < (l.length : Int) := by omega
 obtain rfl : k = l.length := by omega
 rw [List.take_length] at HC HXM;obtain ⟨vx, hbx, hrx⟩ := hxm.row;rw [List.take_length] at hrx;have cx := hbx.c0;have HRX := hid hrx;obtain ⟨AX, cX, rfl⟩ := hrx.form;clear hc hxm hext hbx hrx
 go_wp2
 refine yx ?_;refine ya ?_;refine yl1 cx ?_;refine ya ?_;refine a02 ?_;intro w5 he5 hS5
 iterate 7 (rintro _ rfl)
 dsimp only [a0w];go_simp;have he5 : Ext wA w5 := he5
 go_wp2
 go_ret2
 exact ⟨g, b, _, rfl, HGB.o.1, HGB.o.2, HC.o.ext he5, HRX.o.ext he5, HW.o.trans he5⟩
end Go.Proofs.YtdkejfjcchlnpaaGreat
