/-
  PlWays, packed: what the claim needs of them.
-/
import Derived.Test.YtdkejfjcchlnpaaGreatFn32
import Derived.Test.YtdkejfjcchlnpaaGreatFn33
import Derived.Test.YtdkejfjcchlnpaaGreatFn34
set_option maxHeartbeats 40000000
open Go.Lib (hid)
set_option linter.unusedSimpArgs false
set_option linter.unusedVariables false
set_option maxRecDepth 100000
namespace Go.Ox.Pl
open Go.Ox.Gr Go.Proofs.YtdkejfjcchlnpaaGreat
theorem a4u {g : G} {p q : P2} {w : Wy} (h : a84 g p q = some w) : (w.2 = 0 ∨ (w.2 = 1 ∧ w.1 = false)) := by
 unfold a84 at h
 split at h
 · injection h with h; subst h; exact .inl rfl
 split at h
 · cases h
 split at h
 · injection h with h; subst h; exact .inl rfl
 split at h
 · injection h with h; subst h; exact .inr ⟨rfl, rfl⟩
 split at h
 · injection h with h; subst h; exact .inl rfl
 cases h
theorem asOk (g : G) : AsOk (a2X g) (gPl g) where
 fr a ha := (a1f.1 ha).1
 tt a ha := (a1f.1 ha).2.1
 lo a ha := by have := a4u (a1f.1 ha).2.2; omega
 hi a ha := by have := a4u (a1f.1 ha).2.2; omega
 st a ha hs := by
  rcases a4u (a1f.1 ha).2.2 with h | ⟨_, h⟩
  · exact h
  · rw [h] at hs; cases hs
def b4J (g : G) (p : P2) : Mp := iter (a2X g) p (2 * (gPl g).length + 1) (M0 p)
theorem a8Y {g : G} (hn : (gPl g).length ≤ 20) {p : P2} (hp : p ∈ gPl g) : Least (a2X g) p (b4J g p) := a8V (asOk g) hn hp
end Go.Ox.Pl
namespace Go.Proofs.YtdkejfjcchlnpaaGreat
open Go.RowKit Go.Ox Go.Ox.Gr Mo
theorem b4g (x y : Pl.P2) (w : World) : (Op.equalIn 10000 27 (plV x) (plV y)).run Tryz.prog w = .ok (decide (x = y)) w := by
 obtain ⟨a, b⟩ := x;obtain ⟨c, d⟩ := y;rw [show (Op.equalIn 10000 27 (plV (a, b)) (plV (c, d))).run Tryz.prog w = _ from a6p a b c d w]
 have h : pB a b c d = decide ((a, b) = (c, d)) := by
  unfold pB
  by_cases h1 : a = c <;> by_cases h2 : b = d <;> simp [h1, h2]
 rw [h]
theorem chkPl (e : Bool) (x : Pl.P2) (w : World) : (Instr.checkKey e 10000 27 (plV x)).run Tryz.prog w = .ok () w := by
 kernel_rfl
theorem bitsPl (x : Pl.P2) : Instr.sameBits 10000 (plV x) (plV x) = true := by
 show Instr.sameBits (9999 + 1) (plV x) (plV x) = true;simp [Instr.sameBits]
theorem keyPl : KeyE Tryz.prog 27 (fun p : Pl.P2 => plV p) where
 eq := b4g
 chk := chkPl
 now x y es i b n := ⟨_, Tryz.underlying27, rfl, rfl⟩
 bits := bitsPl
theorem zeroWy (w : World) : (zeroValue 107).run Tryz.prog w = .ok (wV (false, 0)) w := by kernel_rfl
theorem a4v {κ ν : Type} [DecidableEq κ] {l : List (κ × ν)} (hn : (l.map (·.1)).Nodup) {k : κ} {v : ν} : ofE k l = some v ↔ (k, v) ∈ l := by
 unfold ofE;constructor
 · intro h
   cases hf : fdE k l 0 with
   | none => rw [hf] at h; cases h
   | some p =>
   rw [hf] at h;simp only [Option.map_some, Option.some.injEq] at h;subst h;exact a3L (show fdE k l 0 = some (p.1, p.2) from hf)
 intro h;obtain ⟨j, hj⟩ := a5x (i := 0) hn h;rw [hj]; rfl
def WM (w : World) (b : Nat) (M : Pl.Mp) : Prop := ∃ l, a29 (fun p : Pl.P2 => plV p) (fun x : Pl.Wy => wV x) w b l ∧ ∀ k, ofE k l = M k
theorem WM.ext {w w' : World} {b : Nat} {M : Pl.Mp} (h : WM w b M) (he : Ext w w') : WM w' b M := by
 obtain ⟨l, h1, h2⟩ := h;exact ⟨l, h1.ext he, h2⟩
theorem b0K {P : Program} {κ ν : Type} [DecidableEq κ] {T t e : TypeId} {kV : κ → Value} {vV : ν → Value} (K : KeyE P T kV) (ht : P.underlying t = some (.map T e)) {w : World} {b : Nat} {l : List (κ × ν)} (h : a29 kV vV w b l) {z : ν} (hz : ∀ w, (zeroValue e).run P w = .ok (vV z) w) (k : κ) :
 (Instr.lookup t (.map (some b)) (kV k) true).run P w = .ok (.tuple #[vV ((ofE k l).getD z), .bool (ofE k l).isSome]) w := by
 obtain ⟨es, clock, hb, h1, _⟩ := h;unfold Instr.lookup;simp only [Sem.run_bind, run_underlying ht, Result.andThen, MapKept.run_getObj_map hb, Sem.run_pure, K.chk, a2G K k w es.toList l h1];unfold ofE
 cases fdE k l 0 with
 | none => simp [hz]
 | some p => simp
theorem WM.look {w : World} {b : Nat} {M : Pl.Mp} (h : WM w b M) (k : Pl.P2) : (Instr.lookup 165 (.map (some b)) (plV k) true).run Tryz.prog w = .ok (.tuple #[wV ((M k).getD (false, 0)), .bool (M k).isSome]) w := by
 obtain ⟨l, h1, h2⟩ := h;have := b0K keyPl Tryz.underlying165 h1 (z := (false, 0)) zeroWy k;rw [h2 k] at this;exact this
theorem WM.put {w : World} {b : Nat} {M : Pl.Mp} (h : WM w b M) (k : Pl.P2) (n : Pl.Wy) :
 ∃ w', (Instr.mapUpdate 165 (.map (some b)) (plV k) (wV n)).run Tryz.prog w = .ok () w' ∧ ExtM b w w' ∧ WM w' b (Pl.upd M k n) := by
 obtain ⟨l, h1, h2⟩ := h;obtain ⟨w', l', h3, h4, h5, h6⟩ := h1.a6Q keyPl Tryz.underlying165 k n;refine ⟨w', h3, h5, l', h4, fun q => ?_⟩
 unfold Pl.upd;have hn := h1.nodup;have hn' := h4.nodup
 by_cases e : q = k
 · rw [if_pos e, a4v hn', h6, e]; exact .inr rfl
 rw [if_neg e]
 cases hm : M q with
 | none =>
  cases ho : ofE q l' with
  | none => rfl
  | some v =>
  have := (h6 _).1 ((a4v hn').1 ho)
  rcases this with ⟨a, _⟩ | a
  · rw [← a4v hn, h2, hm] at a; cases a
  exact absurd (congrArg Prod.fst a) e
 | some v =>
 rw [a4v hn', h6];exact .inl ⟨by rw [← a4v hn, h2, hm], e⟩
theorem WM.new (w : World) (p : Pl.P2) : ∃ w', (Instr.mapUpdate 165 (.map (some w.heap.size)) (plV p) (wV (false, 0))).run Tryz.prog (w.alloc (.map #[] 0)) = .ok () w' ∧ Ext w w' ∧ WM w' w.heap.size (Pl.M0 p) := by
 have h : WM (w.alloc (.map #[] 0)) w.heap.size (fun _ => none) := ⟨[], a29.new w, fun _ => rfl⟩
 obtain ⟨w', h1, h2, h3⟩ := h.put p (false, 0);exact ⟨w', h1, ((Ext.refl w).alloc _).andM h2 (Nat.le_refl _), h3⟩
theorem b2m {x a : Pl.Wy} (hx : 0 ≤ x.2 ∧ x.2 ≤ 20) (ha : 0 ≤ a.2 ∧ a.2 ≤ 1) : b0G x a = (Pl.thn x a, 0) := by
 have e : b2g x a = Pl.thn x a := rfl;have h1 : okW x = true := by unfold okW; rw [Bool.and_eq_true, decide_eq_true_eq, decide_eq_true_eq]; omega
 have h2 : okW a = true := by unfold okW; rw [Bool.and_eq_true, decide_eq_true_eq, decide_eq_true_eq]; omega
 have h3 : okW (Pl.thn x a) = true := by
  unfold okW Pl.thn;rw [Bool.and_eq_true, decide_eq_true_eq, decide_eq_true_eq]
  split
  · omega
  simp only; omega
 unfold b0G;rw [e, h1, h2, h3, if_neg (by simp), if_neg (by simp)]
theorem b2n (x y : Pl.Wy) (w : World) : Calls Tryz.prog 138 #[wV x, wV y] w fun e w' => e = .returned (.bool (Pl.less x y)) ∧ Ext w w' := by
 have HL := hid (@Pl.a2Z x y);obtain ⟨x1, x2⟩ := x;obtain ⟨y1, y2⟩ := y;generalize Pl.less (x1, x2) (y1, y2) = r at *;dsimp only at *;have HX := hid (((Ext.refl w).alloc (.cells #[.bool x1, .int .i64 x2] 107)).alloc (.cells #[.bool y1, .int .i64 y2] 107));have hb := a7F w 107 107 (.bool x1) (.int .i64 x2) (.bool y1) (.int .i64 y2);obtain ⟨c1, c2, c3, c4⟩ := hb
 go_enter Tryz.func138, Tryz.ntmps138
 go_upto_region 1 with fail
 generalize (w.alloc (.cells #[.bool x1, .int .i64 x2] 107)).alloc (.cells #[.bool y1, .int .i64 y2] 107) = w2 at *;generalize w.heap.size = p at *
 by_cases h1 : x2 < y2
 · have HR := hid (show r = true from HL.o.2 (.inl h1))
   go_wp2
   go_ret
   exact ⟨by rw [HR.o]; rfl, HX.o⟩
 by_cases h2 : x2 = y2
 · subst h2
   cases x1 <;> cases y1
   case true.false =>
    have HR := hid (show r = true from HL.o.2 (.inr ⟨rfl, rfl, rfl⟩))
    go_wp2
    go_ret
    exact ⟨by rw [HR.o]; rfl, HX.o⟩
   all_goals
    have HR := hid (show r = false from by
     cases hr : r with
     | false => rfl
     | true => have := HL.o.1 hr; simp at this)
    go_wp2
    go_ret
    exact ⟨by rw [HR.o]; rfl, HX.o⟩
 have HR := hid (show r = false from by
  cases hr : r with
  | false => rfl
  | true => have := HL.o.1 hr; omega)
 have h3 : (x2 == y2) = false := by simpa using h2
 clear h2
 go_wp2
 go_ret
 exact ⟨by rw [HR.o]; rfl, HX.o⟩
attribute [local irreducible] RE OE a00 WM
theorem a8Z {M : Pl.Mp} {p v : Pl.P2} {w : Pl.Wy} : Pl.better M p v w ↔ v ≠ p ∧ ((M v).isSome = false ∨ Pl.less w ((M v).getD (false, 0)) = true) := by
 unfold Pl.better
 cases M v <;> simp
theorem b2o (d : Nat) (v : Value) (g : G) (p : Pl.P2) (w : World) (hv : a00 d w v g.1) (hn : (gPl g).length ≤ 20) (hp : p ∈ gPl g) :
 Calls Tryz.prog 102 #[gAg v g.2, plV p] w fun e w' => ∃ b, e = .returned (.map (some b)) ∧ WM w' b (Pl.b4J g p) ∧ Ext w w' := by
 have HAR := hid (fun W (h : Ext w W) => b2d d v g W (hv.ext h) hn)
 have HAS := hid (Pl.asOk g);have HAL := hid (Pl.b0v hn);have HN := hid hn;have HL := hid (fun M (h : Pl.Least (Pl.a2X g) p M) => h.uniq (Pl.a8Y hn hp))
 have HI0 := hid (Pl.b4I (cs := Pl.a2X g) hp);have HTH := hid (fun (x a : Pl.Wy) (w : World) => b2l x a w)
 have HLS := hid (fun (x a : Pl.Wy) (w : World) => b2n x a w)
 obtain ⟨l, out⟩ := g;generalize Pl.b4J (l, out) p = WR at *;generalize Pl.a2X (l, out) = AL at *;generalize gPl (l, out) = PL at *;obtain ⟨A, c, rfl⟩ := hv.form;have HX0 := hid (((Ext.refl w).alloc (gCs (.slice A l.length c) out)).alloc (.cells #[.int .i64 p.1, .int .i64 p.2] 27));have HB0 := hid ((Blk.new w 24 #[.slice A l.length c, .int .i64 out]).ext ((Ext.refl _).alloc (.cells #[.int .i64 p.1, .int .i64 p.2] 27)));have HP0 := hid (Blk.new (w.alloc (gCs (.slice A l.length c) out)) 27 #[.int .i64 p.1, .int .i64 p.2]);obtain ⟨p1, p2⟩ := p;dsimp only at HX0 HB0 HP0;clear hv hn hp
 go_enter Tryz.func102, Tryz.ntmps102
 go_upto_region 1 with fail
 obtain ⟨q, hq⟩ : ∃ q, q = w.heap.size := ⟨_, rfl⟩;have hq1 : (w.alloc (gCs (.slice A l.length c) out)).heap.size = q + 1 := by rw [hq]; simp
 rw [hq1] at HP0;rw [← hq] at HB0 ⊢;clear hq hq1;generalize (w.alloc (gCs (.slice A l.length c) out)).alloc (.cells #[.int .i64 p1, .int .i64 p2] 27) = w0 at *;have c0 := HB0.o.c0;have c1 := HB0.o.c1
 go_step3
 go_wp2_with fail
 refine (HAR.o w0 HX0.o).mono ?_;rintro e w1 ⟨ua, rfl, hua, he1⟩;obtain ⟨AA, cA, rfl⟩ := hua.re.form;have HA1 := hid hua.re;have HX1 := hid (HX0.o.trans he1);have HP1 := hid (HP0.o.ext he1);clear hua he1 c0 c1 HX0 HB0 HP0;have hmm := @run_makeMap Tryz.prog;have c0 : (w1.alloc (.map #[] 0)).cell? ⟨q + 1, 0, none⟩ = some (.int .i64 p1) := (HP1.o.ext ((Ext.refl _).alloc _)).cell 0;have c1 : (w1.alloc (.map #[] 0)).cell? ⟨q + 1, 1, none⟩ = some (.int .i64 p2) := (HP1.o.ext ((Ext.refl _).alloc _)).cell 1;obtain ⟨w2, hput, hx2, hm2⟩ := WM.new w1 (p1, p2);have HX2 := hid hx2;have HM2 := hid hm2;clear hx2 hm2
 go_wp2
 clear c0 c1 hput hmm;obtain ⟨b, hb⟩ : ∃ b, b = w1.heap.size := ⟨_, rfl⟩;rw [← hb] at HM2 ⊢;have HBB := hid (show w1.heap.size ≤ b from Nat.le_of_eq hb.symm);clear hb
 go_step3
 go_wp2
 go_loopg [] 2000 (fun gg wr => ∃ M, Pl.Inv AL PL (p1, p2) M ∧ Pl.mu PL M ≤ gg ∧ WM wr b M ∧ Ext w1 wr)
 case atStart => exact ⟨_, HI0.o, Pl.mu_le _ _ HI0.o HN.o, HM2.o, HX2.o⟩
 case round =>
 obtain ⟨M, hinv, hmu, hm, hx⟩ := hrel;rename World => wr
 have HINV := hid hinv;have HMU := hid hmu;have HM := hid hm;have HX := hid hx;clear hinv hmu hm hx
 go_wp2
 go_loopg [23] AL.length (fun gg kv wx => ∃ k : Nat, kv = .int .i64 (k : Int) ∧ k ≤ AL.length ∧ AL.length - k ≤ gg ∧ (∀ a ∈ AL.take k, ∀ x, M a.1.1 = some x → ¬ Pl.better M (p1, p2) a.1.2 (Pl.thn x a.2)) ∧ WM wx b M ∧ Ext w1 wx)
 case atStart => exact ⟨0, rfl, Nat.zero_le _, Nat.sub_le _ _, by simp, HM.o, HX.o⟩
 case round =>
 obtain ⟨k, rfl, hk, hg, hb, hm, hx⟩ := hrel;rename World => wx
 have HG := hid hg;have HB := hid hb;have HMX := hid hm;have HXX := hid hx;have HAX := hid (HA1.o.ext hx);clear hg hb hm hx
 by_cases hlt : k < AL.length
 · have r1 : (k : Int) < (AL.length : Int) := by omega
   have hk9 : (k : Int) + 1 ≤ 1000000 := by have := HAL.o; omega
   have HLT := hid hlt;obtain ⟨bA, oA, hAA, hcA⟩ := RE.at_ HAX.o hlt;have HTK := hid (List.take_succ_eq_append_getElem hlt);have HMEM := hid (List.getElem_mem hlt);generalize AL[k] = y at *;obtain ⟨⟨⟨f1, f2⟩, t1, t2⟩, s, ad⟩ := y;have k0 : wx.cell? ⟨bA, oA + k * 6, none⟩ = some (.int .i64 f1) := hcA 0 _ rfl;have k1 : wx.cell? ⟨bA, oA + k * 6 + 1, none⟩ = some (.int .i64 f2) := hcA 1 _ rfl;have k2 : wx.cell? ⟨bA, oA + k * 6 + 2, none⟩ = some (.int .i64 t1) := hcA 2 _ rfl;have k3 : wx.cell? ⟨bA, oA + k * 6 + 3, none⟩ = some (.int .i64 t2) := hcA 3 _ rfl;have k4 : wx.cell? ⟨bA, oA + k * 6 + 4, none⟩ = some (.bool s) := hcA 4 _ rfl;have k5 : wx.cell? ⟨bA, oA + k * 6 + 5, none⟩ = some (.int .i64 ad) := hcA 5 _ rfl;subst hAA;have HXN := hid ((Ext.refl wx).alloc (.cells #[.int .i64 f1, .int .i64 f2, .int .i64 t1, .int .i64 t2, .bool s, .int .i64 ad] 144));have HYN := hid (Blk.new wx 144 #[.int .i64 f1, .int .i64 f2, .int .i64 t1, .int .i64 t2, .bool s, .int .i64 ad]);clear hcA hlt hk HAX
   go_upto_region 6 with fail
   clear k0 k1 k2 k3 k4 k5;obtain ⟨q8, hq8⟩ : ∃ q, q = wx.heap.size := ⟨_, rfl⟩;rw [← hq8] at HYN ⊢;clear hq8;have HM5 := hid (HMX.o.ext HXN.o);have HX5 := hid (HXX.o.trans HXN.o);generalize wx.alloc (.cells #[.int .i64 f1, .int .i64 f2, .int .i64 t1, .int .i64 t2, .bool s, .int .i64 ad] 144) = w5 at *;clear HXN HMX HXX;have a0 := HYN.o.c0;have a1 := HYN.o.c1;have lk := HM5.o.look (f1, f2)
   cases hM1 : M (f1, f2) with
   | none =>
    rw [hM1] at lk;have lk1 : (Instr.lookup 165 (.map (some b)) (.agg #[.int .i64 f1, .int .i64 f2]) true).run Tryz.prog w5 = .ok (.tuple #[.agg #[.bool false, .int .i64 0], .bool false]) w5 := lk;have HM1 := hid hM1;clear lk hM1;have HXN := hid ((Ext.refl w5).alloc (.cells #[.bool false, .int .i64 0] 107))
    have HNO := hid (show ∀ a ∈ AL.take (k + 1), ∀ x, M a.1.1 = some x → ¬ Pl.better M (p1, p2) a.1.2 (Pl.thn x a.2) from by
     rw [HTK.o];intro a ha x hx
     rcases List.mem_append.1 ha with e | e
     · exact HB.o a e x hx
     rw [List.mem_singleton] at e;subst e
     rw [HM1.o] at hx; cases hx)
    have HWM9 := hid (HM5.o.ext HXN.o);have HXX9 := hid (HX5.o.trans HXN.o)
    go_wp2
    go_roundg (AL.length - (k + 1))
    case measure => have h1 := HG.o; have h2 := HLT.o; omega
    case rel => exact ⟨k + 1, by first | rfl | go_num, HLT.o, Nat.le_refl _, HNO.o, HWM9.o, HXX9.o⟩
   | some x =>
   rw [hM1] at lk;obtain ⟨x1, x2⟩ := x;have lk1 : (Instr.lookup 165 (.map (some b)) (.agg #[.int .i64 f1, .int .i64 f2]) true).run Tryz.prog w5 = .ok (.tuple #[.agg #[.bool x1, .int .i64 x2], .bool true]) w5 := lk;have HM1 := hid hM1;clear lk hM1;have HXN := hid ((Ext.refl w5).alloc (.cells #[.bool x1, .int .i64 x2] 107));have HZN := hid (Blk.new w5 107 #[.bool x1, .int .i64 x2])
   go_upto_region 8 with fail
   clear a0 a1 lk1;obtain ⟨q9, hq9⟩ : ∃ q, q = w5.heap.size := ⟨_, rfl⟩;rw [← hq9] at HZN ⊢;clear hq9;have HM6 := hid (HM5.o.ext HXN.o);have HX6 := hid (HX5.o.trans HXN.o);have HY6 := hid (HYN.o.ext HXN.o);generalize w5.alloc (.cells #[.bool x1, .int .i64 x2] 107) = w6 at *;clear HXN HYN;have a4 := HY6.o.c4;have a5 := HY6.o.c5;have d0 := HZN.o.c0;have d1 := HZN.o.c1;have hbx := HINV.o.bnd _ _ HM1.o;have hcn := Pl.b0A PL M;have htw := b2m (x := (x1, x2)) (a := (s, ad)) ⟨hbx.2.1, by have := hbx.2.2; have := HN.o; simp only; omega⟩ ⟨HAS.o.lo _ HMEM.o, HAS.o.hi _ HMEM.o⟩
   have HT := hid (HTH.o (x1, x2) (s, ad) w6);rw [htw] at HT;clear htw hbx hcn;obtain ⟨n1, n2, htn⟩ : ∃ n1 n2, Pl.thn (x1, x2) (s, ad) = (n1, n2) := ⟨_, _, rfl⟩;have HTN := hid htn;rw [htn] at HT;clear htn
   go_wp2_with fail
   refine HT.o.mono ?_;rintro e w7 ⟨rfl, he7⟩;have HM7 := hid (HM6.o.ext he7);have HX7 := hid (HX6.o.trans he7);have HY7 := hid (HY6.o.ext he7);clear a4 a5 d0 d1 he7 HT HM6 HX6 HY6 HZN;have HXN := hid ((Ext.refl w7).alloc (.cells #[.bool n1, .int .i64 n2] 107));have HNN := hid (Blk.new w7 107 #[.bool n1, .int .i64 n2])
   go_upto_region 9 with fail
   obtain ⟨q11, hq11⟩ : ∃ q, q = w7.heap.size := ⟨_, rfl⟩;rw [← hq11] at HNN ⊢;clear hq11;have HM8 := hid (HM7.o.ext HXN.o);have HX8 := hid (HX7.o.trans HXN.o);have HY8 := hid (HY7.o.ext HXN.o);generalize w7.alloc (.cells #[.bool n1, .int .i64 n2] 107) = w8 at *;clear HXN HM7 HX7 HY7;have a2 := HY8.o.c2;have a3 := HY8.o.c3;have lk := HM8.o.look (t1, t2);have HBI := hid (@a8Z M (p1, p2) (t1, t2) (n1, n2));obtain ⟨z1, z2, hzz⟩ : ∃ z1 z2, (M (t1, t2)).getD (false, 0) = (z1, z2) := ⟨_, _, rfl⟩;obtain ⟨hz, hhz⟩ : ∃ hz, (M (t1, t2)).isSome = hz := ⟨_, rfl⟩;rw [hzz, hhz] at lk HBI;have lk2 : (Instr.lookup 165 (.map (some b)) (.agg #[.int .i64 t1, .int .i64 t2]) true).run Tryz.prog w8 = .ok (.tuple #[.agg #[.bool z1, .int .i64 z2], .bool hz]) w8 := lk;clear lk hzz hhz;have HXN := hid ((Ext.refl w8).alloc (.cells #[.bool z1, .int .i64 z2] 107));have HZN := hid (Blk.new w8 107 #[.bool z1, .int .i64 z2])
   go_upto_region 10 with fail
   clear a2 a3 lk2;obtain ⟨q13, hq13⟩ : ∃ q, q = w8.heap.size := ⟨_, rfl⟩;rw [← hq13] at HZN ⊢;clear hq13;have HM9 := hid (HM8.o.ext HXN.o);have HX9 := hid (HX8.o.trans HXN.o);have HY9 := hid (HY8.o.ext HXN.o);have HN9 := hid (HNN.o.ext HXN.o);generalize w8.alloc (.cells #[.bool z1, .int .i64 z2] 107) = w9 at *;clear HXN HM8 HX8 HY8 HNN;have HP9 := hid (HP1.o.ext HX9.o);have a2 := HY9.o.c2;have a3 := HY9.o.c3;have p0 := HP9.o.c0;have p1' : w9.cell? ⟨q + 1, 1, none⟩ = some (.int .i64 p2) := HP9.o.cell 1;have n0 := HN9.o.c0;have n1' : w9.cell? ⟨q11, 1, none⟩ = some (.int .i64 n2) := HN9.o.cell 1;have z0 := HZN.o.c0;have z1' : w9.cell? ⟨q13, 1, none⟩ = some (.int .i64 z2) := HZN.o.cell 1;have hne := nePl t1 t2 p1 p2
   by_cases htp : (t1, t2) = (p1, p2)
   · rw [pB_t htp] at hne
     have HNB := hid (show ¬ Pl.better M (p1, p2) (t1, t2) (n1, n2) from fun h => (HBI.o.1 h).1 htp)
     clear htp
     have HNO := hid (show ∀ a ∈ AL.take (k + 1), ∀ x, M a.1.1 = some x → ¬ Pl.better M (p1, p2) a.1.2 (Pl.thn x a.2) from by
      rw [HTK.o];intro a ha x hx
      rcases List.mem_append.1 ha with e | e
      · exact HB.o a e x hx
      rw [List.mem_singleton] at e;subst e
      rw [HM1.o] at hx; injection hx with hx; subst hx; rw [HTN.o]; exact HNB.o)
     have HWM9 := hid (HM9.o);have HXX9 := hid (HX9.o)
     go_wp2
     go_roundg (AL.length - (k + 1))
     case measure => have h1 := HG.o; have h2 := HLT.o; omega
     case rel => exact ⟨k + 1, by first | rfl | go_num, HLT.o, Nat.le_refl _, HNO.o, HWM9.o, HXX9.o⟩
   rw [pB_f htp] at hne;have HTP := hid (show (t1, t2) ≠ (p1, p2) from htp);clear htp
   cases hz with
   | false =>
    have HBET := hid (show Pl.better M (p1, p2) (t1, t2) (Pl.thn (x1, x2) (s, ad)) from by rw [HTN.o]; exact HBI.o.2 ⟨HTP.o, .inl rfl⟩)
    obtain ⟨w10, hput, hxm, hwm⟩ := (HM9.o).put (t1, t2) (n1, n2);have HWM9 := hid hwm;have HXX9 := hid ((HX9.o).andM hxm HBB.o);obtain ⟨hs1, hs2, _, _⟩ := HINV.o.step HAS.o HN.o HMEM.o HM1.o (show Pl.better M (p1, p2) (t1, t2) (Pl.thn (x1, x2) (s, ad)) from HBET.o);have HS := hid (show Pl.Inv AL PL (p1, p2) (Pl.upd M (t1, t2) (n1, n2)) ∧ Pl.mu PL (Pl.upd M (t1, t2) (n1, n2)) < Pl.mu PL M from by rw [← HTN.o]; exact ⟨hs1, hs2⟩)
    clear hwm hxm hs1 hs2
    go_wp2
    go_roundg (Pl.mu PL (Pl.upd M (t1, t2) (n1, n2)))
    case measure => have h1 := HMU.o; have h2 := HS.o.2; omega
    case rel => exact ⟨_, HS.o.1, Nat.le_refl _, HWM9.o, HXX9.o⟩
   | true =>
   have HL2 := hid (HLS.o (n1, n2) (z1, z2) w9)
   go_wp2_with fail
   refine HL2.o.mono ?_;rintro e wl ⟨rfl, hel⟩;have HML := hid (HM9.o.ext hel);have HXL := hid (HX9.o.trans hel);have a2 := hel.cell a2;have a3 := hel.cell a3;have n0 := hel.cell n0;have n1' := hel.cell n1';clear hel p0 p1' z0 z1' hne
   cases hle : Pl.less (n1, n2) (z1, z2) with
   | true =>
    have HBET := hid (show Pl.better M (p1, p2) (t1, t2) (Pl.thn (x1, x2) (s, ad)) from by rw [HTN.o]; exact HBI.o.2 ⟨HTP.o, .inr hle⟩)
    clear hle;obtain ⟨w10, hput, hxm, hwm⟩ := (HML.o).put (t1, t2) (n1, n2);have HWM9 := hid hwm;have HXX9 := hid ((HXL.o).andM hxm HBB.o);obtain ⟨hs1, hs2, _, _⟩ := HINV.o.step HAS.o HN.o HMEM.o HM1.o (show Pl.better M (p1, p2) (t1, t2) (Pl.thn (x1, x2) (s, ad)) from HBET.o);have HS := hid (show Pl.Inv AL PL (p1, p2) (Pl.upd M (t1, t2) (n1, n2)) ∧ Pl.mu PL (Pl.upd M (t1, t2) (n1, n2)) < Pl.mu PL M from by rw [← HTN.o]; exact ⟨hs1, hs2⟩)
    clear hwm hxm hs1 hs2
    go_wp2
    go_roundg (Pl.mu PL (Pl.upd M (t1, t2) (n1, n2)))
    case measure => have h1 := HMU.o; have h2 := HS.o.2; omega
    case rel => exact ⟨_, HS.o.1, Nat.le_refl _, HWM9.o, HXX9.o⟩
   | false =>
   have HNB := hid (show ¬ Pl.better M (p1, p2) (t1, t2) (n1, n2) from fun h => by
    rcases (HBI.o.1 h).2 with e | e
    · cases e
    rw [hle] at e; cases e)
   clear hle
   have HNO := hid (show ∀ a ∈ AL.take (k + 1), ∀ x, M a.1.1 = some x → ¬ Pl.better M (p1, p2) a.1.2 (Pl.thn x a.2) from by
    rw [HTK.o];intro a ha x hx
    rcases List.mem_append.1 ha with e | e
    · exact HB.o a e x hx
    rw [List.mem_singleton] at e;subst e
    rw [HM1.o] at hx; injection hx with hx; subst hx; rw [HTN.o]; exact HNB.o)
   have HWM9 := hid (HML.o);have HXX9 := hid (HXL.o)
   go_wp2
   go_roundg (AL.length - (k + 1))
   case measure => have h1 := HG.o; have h2 := HLT.o; omega
   case rel => exact ⟨k + 1, by first | rfl | go_num, HLT.o, Nat.le_refl _, HNO.o, HWM9.o, HXX9.o⟩
 have r1 : ¬ (k : Int) < (AL.length : Int) := by omega
 obtain rfl : k = AL.length := by omega
 rw [List.take_length] at HB;have HE := hid (HL.o M (HINV.o.least HB.o));have HF := hid (show WM wx b WR from by rw [← HE.o]; exact HMX.o)
 have HFX := hid (HX1.o.trans HXX.o);clear hlt hk
 go_wp2
 try rw [Exit.noGoto_ret]
 go_ret
 exact ⟨_, rfl, HF.o, HFX.o⟩
end Go.Proofs.YtdkejfjcchlnpaaGreat
