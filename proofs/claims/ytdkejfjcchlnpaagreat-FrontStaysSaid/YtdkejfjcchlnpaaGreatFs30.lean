/-
  PlWays, PlFns, PlWay, PlLawM, packed: what the claim needs of them.
-/
import Derived.Test.YtdkejfjcchlnpaaGreatFs27
import Derived.Test.YtdkejfjcchlnpaaGreatFs29
set_option maxHeartbeats 40000000
open Go.Lib (hid)
set_option linter.unusedSimpArgs false
set_option linter.unusedVariables false
set_option maxRecDepth 100000
namespace Go.Ox.Pl
open Go.Ox.Gr Go.Proofs.YtdkejfjcchlnpaaGreat
theorem a5C {g : G} {p q : P2} {w : Wy} (h : a5X g p q = some w) : (w.2 = 0 ∨ (w.2 = 1 ∧ w.1 = false)) := by
 unfold a5X at h
 split at h
 · injection h with h; subst h; exact .inl rfl
 split at h
 · cases h
 split at h
 · injection h with h; subst h; exact .inl rfl
 split at h
 · injection h with h; subst h; exact .inr ⟨rfl, rfl⟩
 split at h
 · injection h with h; subst h; exact .inl rfl
 cases h
theorem b4Q (g : G) : AsOk (a1k g) (gPl g) where
 fr a ha := (a1b.1 ha).1
 tt a ha := (a1b.1 ha).2.1
 lo a ha := by have := a5C (a1b.1 ha).2.2; omega
 hi a ha := by have := a5C (a1b.1 ha).2.2; omega
 st a ha hs := by
  rcases a5C (a1b.1 ha).2.2 with h | ⟨_, h⟩
  · exact h
  · rw [h] at hs; cases hs
def a4H (g : G) (p : P2) : Mp := iter (a1k g) p (2 * (gPl g).length + 1) (M0 p)
theorem a2o {g : G} (hn : (gPl g).length ≤ 20) {p : P2} (hp : p ∈ gPl g) : Least (a1k g) p (a4H g p) := b10 (b4Q g) hn hp
theorem b06 {g : G} (hn : (gPl g).length ≤ 20) {p : P2} (hp : p ∈ gPl g) : Inv (a1k g) (gPl g) p (a4H g p) := a4S (b4Q g) hn _ _ (b5F hp)
end Go.Ox.Pl
namespace Go.Proofs.YtdkejfjcchlnpaaGreat
open Go.RowKit Go.Ox Go.Ox.Gr Mo
theorem b6T (x y : Pl.P2) (w : World) : (Op.equalIn 10000 27 (plV x) (plV y)).run Tryz.prog w = .ok (decide (x = y)) w := by
 obtain ⟨a, b⟩ := x;obtain ⟨c, d⟩ := y;rw [show (Op.equalIn 10000 27 (plV (a, b)) (plV (c, d))).run Tryz.prog w = _ from a7M a b c d w]
 have h : pB a b c d = decide ((a, b) = (c, d)) := by
  unfold pB
  by_cases h1 : a = c <;> by_cases h2 : b = d <;> simp [h1, h2]
 rw [h]
theorem chkPl (e : Bool) (x : Pl.P2) (w : World) : (Instr.checkKey e 10000 27 (plV x)).run Tryz.prog w = .ok () w := by
 kernel_rfl
theorem bitsPl (x : Pl.P2) : Instr.sameBits 10000 (plV x) (plV x) = true := by
 show Instr.sameBits (9999 + 1) (plV x) (plV x) = true;simp [Instr.sameBits]
theorem keyPl : KeyE Tryz.prog 27 (fun p : Pl.P2 => plV p) where
 eq := b6T
 chk := chkPl
 now x y es i b n := ⟨_, Tryz.underlying27, rfl, rfl⟩
 bits := bitsPl
theorem zeroWy (w : World) : (zeroValue 107).run Tryz.prog w = .ok (wV (false, 0)) w := by kernel_rfl
theorem a5D {κ ν : Type} [DecidableEq κ] {l : List (κ × ν)} (hn : (l.map (·.1)).Nodup) {k : κ} {v : ν} : ofE k l = some v ↔ (k, v) ∈ l := by
 unfold ofE;constructor
 · intro h
   cases hf : fdE k l 0 with
   | none => rw [hf] at h; cases h
   | some p =>
   rw [hf] at h;simp only [Option.map_some, Option.some.injEq] at h;subst h;exact a4M (show fdE k l 0 = some (p.1, p.2) from hf)
 intro h;obtain ⟨j, hj⟩ := a6K (i := 0) hn h;rw [hj]; rfl
def WM (w : World) (b : Nat) (M : Pl.Mp) : Prop := ∃ l, a2N (fun p : Pl.P2 => plV p) (fun x : Pl.Wy => wV x) w b l ∧ ∀ k, ofE k l = M k
theorem WM.ext {w w' : World} {b : Nat} {M : Pl.Mp} (h : WM w b M) (he : Ext w w') : WM w' b M := by
 obtain ⟨l, h1, h2⟩ := h;exact ⟨l, h1.ext he, h2⟩
theorem b2X {P : Program} {κ ν : Type} [DecidableEq κ] {T t e : TypeId} {kV : κ → Value} {vV : ν → Value} (K : KeyE P T kV) (ht : P.underlying t = some (.map T e)) {w : World} {b : Nat} {l : List (κ × ν)} (h : a2N kV vV w b l) {z : ν} (hz : ∀ w, (zeroValue e).run P w = .ok (vV z) w) (k : κ) :
 (Instr.lookup t (.map (some b)) (kV k) true).run P w = .ok (.tuple #[vV ((ofE k l).getD z), .bool (ofE k l).isSome]) w := by
 obtain ⟨es, clock, hb, h1, _⟩ := h;unfold Instr.lookup;simp only [Sem.run_bind, run_underlying ht, Result.andThen, MapKept.run_getObj_map hb, Sem.run_pure, K.chk, a3D K k w es.toList l h1];unfold ofE
 cases fdE k l 0 with
 | none => simp [hz]
 | some p => simp
theorem WM.look {w : World} {b : Nat} {M : Pl.Mp} (h : WM w b M) (k : Pl.P2) : (Instr.lookup 165 (.map (some b)) (plV k) true).run Tryz.prog w = .ok (.tuple #[wV ((M k).getD (false, 0)), .bool (M k).isSome]) w := by
 obtain ⟨l, h1, h2⟩ := h;have := b2X keyPl Tryz.underlying165 h1 (z := (false, 0)) zeroWy k;rw [h2 k] at this;exact this
theorem WM.put {w : World} {b : Nat} {M : Pl.Mp} (h : WM w b M) (k : Pl.P2) (n : Pl.Wy) :
 ∃ w', (Instr.mapUpdate 165 (.map (some b)) (plV k) (wV n)).run Tryz.prog w = .ok () w' ∧ ExtM b w w' ∧ WM w' b (Pl.upd M k n) := by
 obtain ⟨l, h1, h2⟩ := h;obtain ⟨w', l', h3, h4, h5, h6⟩ := h1.a8C keyPl Tryz.underlying165 k n;refine ⟨w', h3, h5, l', h4, fun q => ?_⟩
 unfold Pl.upd;have hn := h1.nodup;have hn' := h4.nodup
 by_cases e : q = k
 · rw [if_pos e, a5D hn', h6, e]; exact .inr rfl
 rw [if_neg e]
 cases hm : M q with
 | none =>
  cases ho : ofE q l' with
  | none => rfl
  | some v =>
  have := (h6 _).1 ((a5D hn').1 ho)
  rcases this with ⟨a, _⟩ | a
  · rw [← a5D hn, h2, hm] at a; cases a
  exact absurd (congrArg Prod.fst a) e
 | some v =>
 rw [a5D hn', h6];exact .inl ⟨by rw [← a5D hn, h2, hm], e⟩
theorem WM.new (w : World) (p : Pl.P2) : ∃ w', (Instr.mapUpdate 165 (.map (some w.heap.size)) (plV p) (wV (false, 0))).run Tryz.prog (w.alloc (.map #[] 0)) = .ok () w' ∧ Ext w w' ∧ WM w' w.heap.size (Pl.M0 p) := by
 have h : WM (w.alloc (.map #[] 0)) w.heap.size (fun _ => none) := ⟨[], a2N.new w, fun _ => rfl⟩
 obtain ⟨w', h1, h2, h3⟩ := h.put p (false, 0);exact ⟨w', h1, ((Ext.refl w).alloc _).andM h2 (Nat.le_refl _), h3⟩
theorem b07 {x a : Pl.Wy} (hx : 0 ≤ x.2 ∧ x.2 ≤ 20) (ha : 0 ≤ a.2 ∧ a.2 ≤ 1) : a8i x a = (Pl.thn x a, 0) := by
 have e : b2N x a = Pl.thn x a := rfl;have h1 : okW x = true := by unfold okW; rw [Bool.and_eq_true, decide_eq_true_eq, decide_eq_true_eq]; omega
 have h2 : okW a = true := by unfold okW; rw [Bool.and_eq_true, decide_eq_true_eq, decide_eq_true_eq]; omega
 have h3 : okW (Pl.thn x a) = true := by
  unfold okW Pl.thn;rw [Bool.and_eq_true, decide_eq_true_eq, decide_eq_true_eq]
  split
  · omega
  simp only; omega
 unfold a8i;rw [e, h1, h2, h3, if_neg (by simp), if_neg (by simp)]
theorem b4R (x y : Pl.Wy) (w : World) : Calls Tryz.prog 138 #[wV x, wV y] w fun e w' => e = .returned (.bool (Pl.less x y)) ∧ Ext w w' := by
 have HL := hid (@Pl.a3W x y);obtain ⟨x1, x2⟩ := x;obtain ⟨y1, y2⟩ := y;generalize Pl.less (x1, x2) (y1, y2) = r at *;dsimp only at *;have HX := hid (((Ext.refl w).alloc (.cells #[.bool x1, .int .i64 x2] 107)).alloc (.cells #[.bool y1, .int .i64 y2] 107));have hb := a9z w 107 107 (.bool x1) (.int .i64 x2) (.bool y1) (.int .i64 y2);obtain ⟨c1, c2, c3, c4⟩ := hb
 go_enter Tryz.func138, Tryz.ntmps138
 go_upto_region 1 with fail
 generalize (w.alloc (.cells #[.bool x1, .int .i64 x2] 107)).alloc (.cells #[.bool y1, .int .i64 y2] 107) = w2 at *;generalize w.heap.size = p at *
 by_cases h1 : x2 < y2
 · have HR := hid (show r = true from HL.o.2 (.inl h1))
   go_wp2
   go_ret
   exact ⟨by rw [HR.o]; rfl, HX.o⟩
 by_cases h2 : x2 = y2
 · subst h2
   cases x1 <;> cases y1
   case true.false =>
    have HR := hid (show r = true from HL.o.2 (.inr ⟨rfl, rfl, rfl⟩))
    go_wp2
    go_ret
    exact ⟨by rw [HR.o]; rfl, HX.o⟩
   all_goals
    have HR := hid (show r = false from by
     cases hr : r with
     | false => rfl
     | true => have := HL.o.1 hr; simp at this)
    go_wp2
    go_ret
    exact ⟨by rw [HR.o]; rfl, HX.o⟩
 have HR := hid (show r = false from by
  cases hr : r with
  | false => rfl
  | true => have := HL.o.1 hr; omega)
 have h3 : (x2 == y2) = false := by simpa using h2
 clear h2
 go_wp2
 go_ret
 exact ⟨by rw [HR.o]; rfl, HX.o⟩
attribute [local irreducible] RE OE a00 WM
theorem b17 {M : Pl.Mp} {p v : Pl.P2} {w : Pl.Wy} : Pl.better M p v w ↔ v ≠ p ∧ ((M v).isSome = false ∨ Pl.less w ((M v).getD (false, 0)) = true) := by
 unfold Pl.better
 cases M v <;> simp
theorem b4S (d : Nat) (v : Value) (g : G) (p : Pl.P2) (w : World) (hv : a00 d w v g.1) (hn : (gPl g).length ≤ 20) (hp : p ∈ gPl g) :
 Calls Tryz.prog 102 #[gAg v g.2, plV p] w fun e w' => ∃ b, e = .returned (.map (some b)) ∧ WM w' b (Pl.a4H g p) ∧ Ext w w' := by
 have HAR := hid (fun W (h : Ext w W) => b4G d v g W (hv.ext h) hn)
 have HAS := hid (Pl.b4Q g);have HAL := hid (Pl.a8d hn);have HN := hid hn;have HL := hid (fun M (h : Pl.Least (Pl.a1k g) p M) => h.uniq (Pl.a2o hn hp))
 have HI0 := hid (Pl.b5F (cs := Pl.a1k g) hp);have HTH := hid (fun (x a : Pl.Wy) (w : World) => b4P x a w)
 have HLS := hid (fun (x a : Pl.Wy) (w : World) => b4R x a w)
 obtain ⟨l, out⟩ := g;generalize Pl.a4H (l, out) p = WR at *;generalize Pl.a1k (l, out) = AL at *;generalize gPl (l, out) = PL at *;obtain ⟨A, c, rfl⟩ := hv.form;have HX0 := hid (((Ext.refl w).alloc (gCs (.slice A l.length c) out)).alloc (.cells #[.int .i64 p.1, .int .i64 p.2] 27));have HB0 := hid ((Blk.new w 24 #[.slice A l.length c, .int .i64 out]).ext ((Ext.refl _).alloc (.cells #[.int .i64 p.1, .int .i64 p.2] 27)));have HP0 := hid (Blk.new (w.alloc (gCs (.slice A l.length c) out)) 27 #[.int .i64 p.1, .int .i64 p.2]);obtain ⟨p1, p2⟩ := p;dsimp only at HX0 HB0 HP0;clear hv hn hp
 go_enter Tryz.func102, Tryz.ntmps102
 go_upto_region 1 with fail
 obtain ⟨q, hq⟩ : ∃ q, q = w.heap.size := ⟨_, rfl⟩;have hq1 : (w.alloc (gCs (.slice A l.length c) out)).heap.size = q + 1 := by rw [hq]; simp
 rw [hq1] at HP0;rw [← hq] at HB0 ⊢;clear hq hq1;generalize (w.alloc (gCs (.slice A l.length c) out)).alloc (.cells #[.int .i64 p1, .int .i64 p2] 27) = w0 at *;have c0 := HB0.o.c0;have c1 := HB0.o.c1
 go_step3
 go_wp2_with fail
 refine (HAR.o w0 HX0.o).mono ?_;rintro e w1 ⟨ua, rfl, hua, he1⟩;obtain ⟨AA, cA, rfl⟩ := hua.re.form;have HA1 := hid hua.re;have HX1 := hid (HX0.o.trans he1);have HP1 := hid (HP0.o.ext he1);clear hua he1 c0 c1 HX0 HB0 HP0;have hmm := @run_makeMap Tryz.prog;have c0 : (w1.alloc (.map #[] 0)).cell? ⟨q + 1, 0, none⟩ = some (.int .i64 p1) := (HP1.o.ext ((Ext.refl _).alloc _)).cell 0;have c1 : (w1.alloc (.map #[] 0)).cell? ⟨q + 1, 1, none⟩ = some (.int .i64 p2) := (HP1.o.ext ((Ext.refl _).alloc _)).cell 1;obtain ⟨w2, hput, hx2, hm2⟩ := WM.new w1 (p1, p2);have HX2 := hid hx2;have HM2 := hid hm2;clear hx2 hm2
 go_wp2
 clear c0 c1 hput hmm;obtain ⟨b, hb⟩ : ∃ b, b = w1.heap.size := ⟨_, rfl⟩;rw [← hb] at HM2 ⊢;have HBB := hid (show w1.heap.size ≤ b from Nat.le_of_eq hb.symm);clear hb
 go_step3
 go_wp2
 go_loopg [] 2000 (fun gg wr => ∃ M, Pl.Inv AL PL (p1, p2) M ∧ Pl.mu PL M ≤ gg ∧ WM wr b M ∧ Ext w1 wr)
 case atStart => exact ⟨_, HI0.o, Pl.mu_le _ _ HI0.o HN.o, HM2.o, HX2.o⟩
 case round =>
 obtain ⟨M, hinv, hmu, hm, hx⟩ := hrel;rename World => wr
 have HINV := hid hinv;have HMU := hid hmu;have HM := hid hm;have HX := hid hx;clear hinv hmu hm hx
 go_wp2
 go_loopg [23] AL.length (fun gg kv wx => ∃ k : Nat, kv = .int .i64 (k : Int) ∧ k ≤ AL.length ∧ AL.length - k ≤ gg ∧ (∀ a ∈ AL.take k, ∀ x, M a.1.1 = some x → ¬ Pl.better M (p1, p2) a.1.2 (Pl.thn x a.2)) ∧ WM wx b M ∧ Ext w1 wx)
 case atStart => exact ⟨0, rfl, Nat.zero_le _, Nat.sub_le _ _, by simp, HM.o, HX.o⟩
 case round =>
 obtain ⟨k, rfl, hk, hg, hb, hm, hx⟩ := hrel;rename World => wx
 have HG := hid hg;have HB := hid hb;have HMX := hid hm;have HXX := hid hx;have HAX := hid (HA1.o.ext hx);clear hg hb hm hx
 by_cases hlt : k < AL.length
 · have r1 : (k : Int) < (AL.length : Int) := by omega
   have hk9 : (k : Int) + 1 ≤ 1000000 := by have := HAL.o; omega
   have HLT := hid hlt;obtain ⟨bA, oA, hAA, hcA⟩ := RE.at_ HAX.o hlt;have HTK := hid (List.take_succ_eq_append_getElem hlt);have HMEM := hid (List.getElem_mem hlt);generalize AL[k] = y at *;obtain ⟨⟨⟨f1, f2⟩, t1, t2⟩, s, ad⟩ := y;have k0 : wx.cell? ⟨bA, oA + k * 6, none⟩ = some (.int .i64 f1) := hcA 0 _ rfl;have k1 : wx.cell? ⟨bA, oA + k * 6 + 1, none⟩ = some (.int .i64 f2) := hcA 1 _ rfl;have k2 : wx.cell? ⟨bA, oA + k * 6 + 2, none⟩ = some (.int .i64 t1) := hcA 2 _ rfl;have k3 : wx.cell? ⟨bA, oA + k * 6 + 3, none⟩ = some (.int .i64 t2) := hcA 3 _ rfl;have k4 : wx.cell? ⟨bA, oA + k * 6 + 4, none⟩ = some (.bool s) := hcA 4 _ rfl;have k5 : wx.cell? ⟨bA, oA + k * 6 + 5, none⟩ = some (.int .i64 ad) := hcA 5 _ rfl;subst hAA;have HXN := hid ((Ext.refl wx).alloc (.cells #[.int .i64 f1, .int .i64 f2, .int .i64 t1, .int .i64 t2, .bool s, .int .i64 ad] 144));have HYN := hid (Blk.new wx 144 #[.int .i64 f1, .int .i64 f2, .int .i64 t1, .int .i64 t2, .bool s, .int .i64 ad]);clear hcA hlt hk HAX
   go_upto_region 6 with fail
   clear k0 k1 k2 k3 k4 k5;obtain ⟨q8, hq8⟩ : ∃ q, q = wx.heap.size := ⟨_, rfl⟩;rw [← hq8] at HYN ⊢;clear hq8;have HM5 := hid (HMX.o.ext HXN.o);have HX5 := hid (HXX.o.trans HXN.o);generalize wx.alloc (.cells #[.int .i64 f1, .int .i64 f2, .int .i64 t1, .int .i64 t2, .bool s, .int .i64 ad] 144) = w5 at *;clear HXN HMX HXX;have a0 := HYN.o.c0;have a1 := HYN.o.c1;have lk := HM5.o.look (f1, f2)
   cases hM1 : M (f1, f2) with
   | none =>
    rw [hM1] at lk;have lk1 : (Instr.lookup 165 (.map (some b)) (.agg #[.int .i64 f1, .int .i64 f2]) true).run Tryz.prog w5 = .ok (.tuple #[.agg #[.bool false, .int .i64 0], .bool false]) w5 := lk;have HM1 := hid hM1;clear lk hM1;have HXN := hid ((Ext.refl w5).alloc (.cells #[.bool false, .int .i64 0] 107))
    have HNO := hid (show ∀ a ∈ AL.take (k + 1), ∀ x, M a.1.1 = some x → ¬ Pl.better M (p1, p2) a.1.2 (Pl.thn x a.2) from by
     rw [HTK.o];intro a ha x hx
     rcases List.mem_append.1 ha with e | e
     · exact HB.o a e x hx
     rw [List.mem_singleton] at e;subst e
     rw [HM1.o] at hx; cases hx)
    have HWM9 := hid (HM5.o.ext HXN.o);have HXX9 := hid (HX5.o.trans HXN.o)
    go_wp2
    go_roundg (AL.length - (k + 1))
    case measure => have h1 := HG.o; have h2 := HLT.o; omega
    case rel => exact ⟨k + 1, by first | rfl | go_num, HLT.o, Nat.le_refl _, HNO.o, HWM9.o, HXX9.o⟩
   | some x =>
   rw [hM1] at lk;obtain ⟨x1, x2⟩ := x;have lk1 : (Instr.lookup 165 (.map (some b)) (.agg #[.int .i64 f1, .int .i64 f2]) true).run Tryz.prog w5 = .ok (.tuple #[.agg #[.bool x1, .int .i64 x2], .bool true]) w5 := lk;have HM1 := hid hM1;clear lk hM1;have HXN := hid ((Ext.refl w5).alloc (.cells #[.bool x1, .int .i64 x2] 107));have HZN := hid (Blk.new w5 107 #[.bool x1, .int .i64 x2])
   go_upto_region 8 with fail
   clear a0 a1 lk1;obtain ⟨q9, hq9⟩ : ∃ q, q = w5.heap.size := ⟨_, rfl⟩;rw [← hq9] at HZN ⊢;clear hq9;have HM6 := hid (HM5.o.ext HXN.o);have HX6 := hid (HX5.o.trans HXN.o);have HY6 := hid (HYN.o.ext HXN.o);generalize w5.alloc (.cells #[.bool x1, .int .i64 x2] 107) = w6 at *;clear HXN HYN;have a4 := HY6.o.c4;have a5 := HY6.o.c5;have d0 := HZN.o.c0;have d1 := HZN.o.c1;have hbx := HINV.o.bnd _ _ HM1.o;have hcn := Pl.a8e PL M;have htw := b07 (x := (x1, x2)) (a := (s, ad)) ⟨hbx.2.1, by have := hbx.2.2; have := HN.o; simp only; omega⟩ ⟨HAS.o.lo _ HMEM.o, HAS.o.hi _ HMEM.o⟩
   have HT := hid (HTH.o (x1, x2) (s, ad) w6);rw [htw] at HT;clear htw hbx hcn;obtain ⟨n1, n2, htn⟩ : ∃ n1 n2, Pl.thn (x1, x2) (s, ad) = (n1, n2) := ⟨_, _, rfl⟩;have HTN := hid htn;rw [htn] at HT;clear htn
   go_wp2_with fail
   refine HT.o.mono ?_;rintro e w7 ⟨rfl, he7⟩;have HM7 := hid (HM6.o.ext he7);have HX7 := hid (HX6.o.trans he7);have HY7 := hid (HY6.o.ext he7);clear a4 a5 d0 d1 he7 HT HM6 HX6 HY6 HZN;have HXN := hid ((Ext.refl w7).alloc (.cells #[.bool n1, .int .i64 n2] 107));have HNN := hid (Blk.new w7 107 #[.bool n1, .int .i64 n2])
   go_upto_region 9 with fail
   obtain ⟨q11, hq11⟩ : ∃ q, q = w7.heap.size := ⟨_, rfl⟩;rw [← hq11] at HNN ⊢;clear hq11;have HM8 := hid (HM7.o.ext HXN.o);have HX8 := hid (HX7.o.trans HXN.o);have HY8 := hid (HY7.o.ext HXN.o);generalize w7.alloc (.cells #[.bool n1, .int .i64 n2] 107) = w8 at *;clear HXN HM7 HX7 HY7;have a2 := HY8.o.c2;have a3 := HY8.o.c3;have lk := HM8.o.look (t1, t2);have HBI := hid (@b17 M (p1, p2) (t1, t2) (n1, n2));obtain ⟨z1, z2, hzz⟩ : ∃ z1 z2, (M (t1, t2)).getD (false, 0) = (z1, z2) := ⟨_, _, rfl⟩;obtain ⟨hz, hhz⟩ : ∃ hz, (M (t1, t2)).isSome = hz := ⟨_, rfl⟩;rw [hzz, hhz] at lk HBI;have lk2 : (Instr.lookup 165 (.map (some b)) (.agg #[.int .i64 t1, .int .i64 t2]) true).run Tryz.prog w8 = .ok (.tuple #[.agg #[.bool z1, .int .i64 z2], .bool hz]) w8 := lk;clear lk hzz hhz;have HXN := hid ((Ext.refl w8).alloc (.cells #[.bool z1, .int .i64 z2] 107));have HZN := hid (Blk.new w8 107 #[.bool z1, .int .i64 z2])
   go_upto_region 10 with fail
   clear a2 a3 lk2;obtain ⟨q13, hq13⟩ : ∃ q, q = w8.heap.size := ⟨_, rfl⟩;rw [← hq13] at HZN ⊢;clear hq13;have HM9 := hid (HM8.o.ext HXN.o);have HX9 := hid (HX8.o.trans HXN.o);have HY9 := hid (HY8.o.ext HXN.o);have HN9 := hid (HNN.o.ext HXN.o);generalize w8.alloc (.cells #[.bool z1, .int .i64 z2] 107) = w9 at *;clear HXN HM8 HX8 HY8 HNN;have HP9 := hid (HP1.o.ext HX9.o);have a2 := HY9.o.c2;have a3 := HY9.o.c3;have p0 := HP9.o.c0;have p1' : w9.cell? ⟨q + 1, 1, none⟩ = some (.int .i64 p2) := HP9.o.cell 1;have n0 := HN9.o.c0;have n1' : w9.cell? ⟨q11, 1, none⟩ = some (.int .i64 n2) := HN9.o.cell 1;have z0 := HZN.o.c0;have z1' : w9.cell? ⟨q13, 1, none⟩ = some (.int .i64 z2) := HZN.o.cell 1;have hne := nePl t1 t2 p1 p2
   by_cases htp : (t1, t2) = (p1, p2)
   · rw [pB_t htp] at hne
     have HNB := hid (show ¬ Pl.better M (p1, p2) (t1, t2) (n1, n2) from fun h => (HBI.o.1 h).1 htp)
     clear htp
     have HNO := hid (show ∀ a ∈ AL.take (k + 1), ∀ x, M a.1.1 = some x → ¬ Pl.better M (p1, p2) a.1.2 (Pl.thn x a.2) from by
      rw [HTK.o];intro a ha x hx
      rcases List.mem_append.1 ha with e | e
      · exact HB.o a e x hx
      rw [List.mem_singleton] at e;subst e
      rw [HM1.o] at hx; injection hx with hx; subst hx; rw [HTN.o]; exact HNB.o)
     have HWM9 := hid (HM9.o);have HXX9 := hid (HX9.o)
     go_wp2
     go_roundg (AL.length - (k + 1))
     case measure => have h1 := HG.o; have h2 := HLT.o; omega
     case rel => exact ⟨k + 1, by first | rfl | go_num, HLT.o, Nat.le_refl _, HNO.o, HWM9.o, HXX9.o⟩
   rw [pB_f htp] at hne;have HTP := hid (show (t1, t2) ≠ (p1, p2) from htp);clear htp
   cases hz with
   | false =>
    have HBET := hid (show Pl.better M (p1, p2) (t1, t2) (Pl.thn (x1, x2) (s, ad)) from by rw [HTN.o]; exact HBI.o.2 ⟨HTP.o, .inl rfl⟩)
    obtain ⟨w10, hput, hxm, hwm⟩ := (HM9.o).put (t1, t2) (n1, n2);have HWM9 := hid hwm;have HXX9 := hid ((HX9.o).andM hxm HBB.o);obtain ⟨hs1, hs2, _, _⟩ := HINV.o.step HAS.o HN.o HMEM.o HM1.o (show Pl.better M (p1, p2) (t1, t2) (Pl.thn (x1, x2) (s, ad)) from HBET.o);have HS := hid (show Pl.Inv AL PL (p1, p2) (Pl.upd M (t1, t2) (n1, n2)) ∧ Pl.mu PL (Pl.upd M (t1, t2) (n1, n2)) < Pl.mu PL M from by rw [← HTN.o]; exact ⟨hs1, hs2⟩)
    clear hwm hxm hs1 hs2
    go_wp2
    go_roundg (Pl.mu PL (Pl.upd M (t1, t2) (n1, n2)))
    case measure => have h1 := HMU.o; have h2 := HS.o.2; omega
    case rel => exact ⟨_, HS.o.1, Nat.le_refl _, HWM9.o, HXX9.o⟩
   | true =>
   have HL2 := hid (HLS.o (n1, n2) (z1, z2) w9)
   go_wp2_with fail
   refine HL2.o.mono ?_;rintro e wl ⟨rfl, hel⟩;have HML := hid (HM9.o.ext hel);have HXL := hid (HX9.o.trans hel);have a2 := hel.cell a2;have a3 := hel.cell a3;have n0 := hel.cell n0;have n1' := hel.cell n1';clear hel p0 p1' z0 z1' hne
   cases hle : Pl.less (n1, n2) (z1, z2) with
   | true =>
    have HBET := hid (show Pl.better M (p1, p2) (t1, t2) (Pl.thn (x1, x2) (s, ad)) from by rw [HTN.o]; exact HBI.o.2 ⟨HTP.o, .inr hle⟩)
    clear hle;obtain ⟨w10, hput, hxm, hwm⟩ := (HML.o).put (t1, t2) (n1, n2);have HWM9 := hid hwm;have HXX9 := hid ((HXL.o).andM hxm HBB.o);obtain ⟨hs1, hs2, _, _⟩ := HINV.o.step HAS.o HN.o HMEM.o HM1.o (show Pl.better M (p1, p2) (t1, t2) (Pl.thn (x1, x2) (s, ad)) from HBET.o);have HS := hid (show Pl.Inv AL PL (p1, p2) (Pl.upd M (t1, t2) (n1, n2)) ∧ Pl.mu PL (Pl.upd M (t1, t2) (n1, n2)) < Pl.mu PL M from by rw [← HTN.o]; exact ⟨hs1, hs2⟩)
    clear hwm hxm hs1 hs2
    go_wp2
    go_roundg (Pl.mu PL (Pl.upd M (t1, t2) (n1, n2)))
    case measure => have h1 := HMU.o; have h2 := HS.o.2; omega
    case rel => exact ⟨_, HS.o.1, Nat.le_refl _, HWM9.o, HXX9.o⟩
   | false =>
   have HNB := hid (show ¬ Pl.better M (p1, p2) (t1, t2) (n1, n2) from fun h => by
    rcases (HBI.o.1 h).2 with e | e
    · cases e
    rw [hle] at e; cases e)
   clear hle
   have HNO := hid (show ∀ a ∈ AL.take (k + 1), ∀ x, M a.1.1 = some x → ¬ Pl.better M (p1, p2) a.1.2 (Pl.thn x a.2) from by
    rw [HTK.o];intro a ha x hx
    rcases List.mem_append.1 ha with e | e
    · exact HB.o a e x hx
    rw [List.mem_singleton] at e;subst e
    rw [HM1.o] at hx; injection hx with hx; subst hx; rw [HTN.o]; exact HNB.o)
   have HWM9 := hid (HML.o);have HXX9 := hid (HXL.o)
   go_wp2
   go_roundg (AL.length - (k + 1))
   case measure => have h1 := HG.o; have h2 := HLT.o; omega
   case rel => exact ⟨k + 1, by first | rfl | go_num, HLT.o, Nat.le_refl _, HNO.o, HWM9.o, HXX9.o⟩
 have r1 : ¬ (k : Int) < (AL.length : Int) := by omega
 obtain rfl : k = AL.length := by omega
 rw [List.take_length] at HB;have HE := hid (HL.o M (HINV.o.least HB.o));have HF := hid (show WM wx b WR from by rw [← HE.o]; exact HMX.o)
 have HFX := hid (HX1.o.trans HXX.o);clear hlt hk
 go_wp2
 try rw [Exit.noGoto_ret]
 go_ret
 exact ⟨_, rfl, HF.o, HFX.o⟩
end Go.Proofs.YtdkejfjcchlnpaaGreat
namespace Go.Ox.Pl
open Go.Ox.Gr Go.Proofs.YtdkejfjcchlnpaaGreat
theorem fmk {α β : Type} (f : α → Option β) (l : List α) {k : Nat} (h : k < l.length) : (l.take (k + 1)).filterMap f = (l.take k).filterMap f ++ (f l[k]).toList := by
 rw [List.take_succ_eq_append_getElem h, List.filterMap_append]
 cases hf : f l[k] <;> simp [hf]
theorem b18 {g : G} {p : P2} (h : (gNd g p).isSome = true) : p ∈ gPl g := by
 have hok : gOk g = true := by
  cases hq : gOk g with
  | true => rfl
  | false => unfold gNd at h; rw [if_neg (by rw [hq]; simp)] at h; cases h
 unfold gPl;rw [if_pos hok];exact (a4n hok).1 h
end Go.Ox.Pl
namespace Go.Proofs.YtdkejfjcchlnpaaGreat
open Go.RowKit Go.Ox Go.Ox.Gr Mo
attribute [local irreducible] RE OE a00 WM
theorem a5Y {w w0 : World} {p : Nat} {T : TypeId} {a b : Value} (h : Blk w p T #[a, b]) (hx : Ext w0 w) (hp : w0.heap.size ≤ p) (u v : Value) :
 ((w.setCell ⟨p, 0, none⟩ u).setCell ⟨p, 1, none⟩ v).cell? ⟨p, 0, none⟩ = some u ∧ ((w.setCell ⟨p, 0, none⟩ u).setCell ⟨p, 1, none⟩ v).cell? ⟨p, 1, none⟩ = some v ∧ Ext w0 ((w.setCell ⟨p, 0, none⟩ u).setCell ⟨p, 1, none⟩ v) :=
 ⟨((h.a0C 0 u).a0C 1 v).cell 0, ((h.a0C 0 u).a0C 1 v).cell 1, Ext.setCell (Ext.setCell hx hp _) hp _⟩
end Go.Proofs.YtdkejfjcchlnpaaGreat
namespace Go.Ox.Pl
open Go.Ox.Gr Go.Proofs.YtdkejfjcchlnpaaGreat
def a6z (g : G) (p q : P2) : Option Wy := if (gNd g p).isSome = true ∧ (gNd g q).isSome = true then a4H g p q else none
end Go.Ox.Pl
namespace Go.Proofs.YtdkejfjcchlnpaaGreat
open Go.RowKit Go.Ox Go.Ox.Gr Mo
structure BW4 (w : World) (n : Nat) (gv : Value) (out p1 p2 q1 q2 : Int) : Prop where
 g : Blk w n 24 #[gv, .int .i64 out]
 p : Blk w (n + 1) 27 #[.int .i64 p1, .int .i64 p2]
 q : Blk w (n + 1 + 1) 27 #[.int .i64 q1, .int .i64 q2]
 r : Blk w (n + 1 + 1 + 1) 107 #[.bool false, .int .i64 0]
abbrev wBW4 (w : World) (gv : Value) (out p1 p2 q1 q2 : Int) : World := (((w.alloc (gCs gv out)).alloc (.cells #[.int .i64 p1, .int .i64 p2] 27)).alloc (.cells #[.int .i64 q1, .int .i64 q2] 27)).alloc (.cells #[.bool false, .int .i64 0] 107)
theorem BW4.new (w : World) (gv : Value) (out p1 p2 q1 q2 : Int) : BW4 (wBW4 w gv out p1 p2 q1 q2) w.heap.size gv out p1 p2 q1 q2 ∧ Ext w (wBW4 w gv out p1 p2 q1 q2) := by
 have e1 : (w.alloc (gCs gv out)).heap.size = w.heap.size + 1 := by simp
 have e2 : ((w.alloc (gCs gv out)).alloc (.cells #[.int .i64 p1, .int .i64 p2] 27)).heap.size = w.heap.size + 1 + 1 := by simp
 have e3 : (((w.alloc (gCs gv out)).alloc (.cells #[.int .i64 p1, .int .i64 p2] 27)).alloc (.cells #[.int .i64 q1, .int .i64 q2] 27)).heap.size = w.heap.size + 1 + 1 + 1 := by simp
 have b0 := Blk.new w 24 #[gv, .int .i64 out];have b1 := Blk.new (w.alloc (gCs gv out)) 27 #[.int .i64 p1, .int .i64 p2];have b2 := Blk.new ((w.alloc (gCs gv out)).alloc (.cells #[.int .i64 p1, .int .i64 p2] 27)) 27 #[.int .i64 q1, .int .i64 q2];have b3 := Blk.new (((w.alloc (gCs gv out)).alloc (.cells #[.int .i64 p1, .int .i64 p2] 27)).alloc (.cells #[.int .i64 q1, .int .i64 q2] 27)) 107 #[.bool false, .int .i64 0];rw [e1] at b1;rw [e2] at b2;rw [e3] at b3;exact ⟨⟨((b0.ext ((Ext.refl _).alloc _)).ext ((Ext.refl _).alloc _)).ext ((Ext.refl _).alloc _), (b1.ext ((Ext.refl _).alloc _)).ext ((Ext.refl _).alloc _), b2.ext ((Ext.refl _).alloc _), b3⟩, ((((Ext.refl w).alloc _).alloc _).alloc _).alloc _⟩
theorem BW4.ext {w w' : World} {n : Nat} {gv : Value} {out p1 p2 q1 q2 : Int} (h : BW4 w n gv out p1 p2 q1 q2) (he : Ext w w') : BW4 w' n gv out p1 p2 q1 q2 := ⟨h.g.ext he, h.p.ext he, h.q.ext he, h.r.ext he⟩
theorem BW4.cells {w : World} {n : Nat} {gv : Value} {out p1 p2 q1 q2 : Int} (h : BW4 w n gv out p1 p2 q1 q2) : w.cell? ⟨n, 0, none⟩ = some gv ∧ w.cell? ⟨n, 1, none⟩ = some (.int .i64 out) ∧ w.cell? ⟨n + 1, 0, none⟩ = some (.int .i64 p1) ∧ w.cell? ⟨n + 1, 1, none⟩ = some (.int .i64 p2) ∧ w.cell? ⟨n + 1 + 1, 0, none⟩ = some (.int .i64 q1) ∧ w.cell? ⟨n + 1 + 1, 1, none⟩ = some (.int .i64 q2) :=
 ⟨h.g.cell 0, h.g.cell 1, h.p.cell 0, h.p.cell 1, h.q.cell 0, h.q.cell 1⟩
theorem BW4.rs {w : World} {n : Nat} {gv : Value} {out p1 p2 q1 q2 : Int} (h : BW4 w n gv out p1 p2 q1 q2) : w.cell? ⟨n + 1 + 1 + 1, 0, none⟩ = some (.bool false) ∧ w.cell? ⟨n + 1 + 1 + 1, 1, none⟩ = some (.int .i64 0) ∧ w.frozen? ⟨n + 1 + 1 + 1, 0, none⟩ = false ∧ w.frozen? ⟨n + 1 + 1 + 1, 1, none⟩ = false ∧
 (∀ u, (w.setCell ⟨n + 1 + 1 + 1, 0, none⟩ u).frozen? ⟨n + 1 + 1 + 1, 1, none⟩ = false) ∧ (∀ u, (w.setCell ⟨n + 1 + 1 + 1, 0, none⟩ u).cell? ⟨n + 1 + 1 + 1, 1, none⟩ = some (.int .i64 0)) :=
 ⟨h.r.cell 0, h.r.cell 1, h.r.frozen 0, h.r.frozen 1, fun u => (h.r.a0C 0 u).frozen 1, fun u => (h.r.a0C 0 u).cell 1⟩
attribute [local irreducible] RE OE a00 WM
theorem b2Y (d : Nat) (v : Value) (g : G) (p q : Pl.P2) (w : World) (hv : a00 d w v g.1) (hn : (gPl g).length ≤ 20) :
 Calls Tryz.prog 72 #[gAg v g.2, plV p, plV q] w fun e w' => e = .returned (.tuple #[wV ((Pl.a6z g p q).getD (false, 0)), .bool (Pl.a6z g p q).isSome]) ∧ Ext w w' := by
 have HND := hid (fun p W (h : Ext w W) => a88 d v g p W (hv.ext h))
 have HNDP := hid (HND.o p);have HNDQ := hid (HND.o q);clear HND;have HWY := hid (fun (hp : (gNd g p).isSome = true) W (h : Ext w W) => b4S d v g p W (hv.ext h) hn (Pl.b18 hp))
 have HWO := hid (show Pl.a6z g p q = if (gNd g p).isSome = true ∧ (gNd g q).isSome = true then Pl.a4H g p q else none from rfl)
 obtain ⟨l, out⟩ := g;generalize Pl.a6z (l, out) p q = WO at *;generalize Pl.a4H (l, out) p = M at *;generalize (gNd (l, out) p).getD default = nd at *;generalize (gNd (l, out) q).getD default = nq at *;generalize (gNd (l, out) p).isSome = sp at *;generalize (gNd (l, out) q).isSome = sq at *;obtain ⟨A, c, rfl⟩ := hv.form;obtain ⟨p1, p2⟩ := p;obtain ⟨q1, q2⟩ := q;obtain ⟨op, ins, kind, fa, a, body⟩ := nd;obtain ⟨op', ins', kind', fa', a', body'⟩ := nq;have h0 : BW4 ((((w.alloc (gCs (.slice A l.length c) out)).alloc (.cells #[.int .i64 p1, .int .i64 p2] 27)).alloc (.cells #[.int .i64 q1, .int .i64 q2] 27)).alloc (.cells #[.bool false, .int .i64 0] 107)) w.heap.size (.slice A l.length c) out p1 p2 q1 q2 ∧ Ext w ((((w.alloc (gCs (.slice A l.length c) out)).alloc (.cells #[.int .i64 p1, .int .i64 p2] 27)).alloc (.cells #[.int .i64 q1, .int .i64 q2] 27)).alloc (.cells #[.bool false, .int .i64 0] 107)) := BW4.new w (.slice A l.length c) out p1 p2 q1 q2;have HB0 := hid h0.1;have HX0 := hid h0.2;clear h0 hv hn
 go_enter Tryz.func72, Tryz.ntmps72
 go_upto_region 1 with fail
 obtain ⟨n, hn⟩ : ∃ n, n = w.heap.size := ⟨_, rfl⟩;rw [← hn] at HB0 ⊢;have HPS := hid (show w.heap.size ≤ n + 1 + 1 + 1 from by omega)
 clear hn;generalize (((w.alloc (gCs (.slice A l.length c) out)).alloc (.cells #[.int .i64 p1, .int .i64 p2] 27)).alloc (.cells #[.int .i64 q1, .int .i64 q2] 27)).alloc (.cells #[.bool false, .int .i64 0] 107) = w0 at *;obtain ⟨c0, c1, c2, c3, c4, c5⟩ := HB0.o.cells
 go_wp2_with fail
 refine (HNDP.o w0 HX0.o).mono ?_;rintro e w1 ⟨u9, b9, rfl, hu9, hb9, he1⟩;simp only [Nd.op, Nd.kind, Nd.fa, Nd.a, Nd.ins, Nd.body] at hu9 hb9 ⊢;obtain ⟨A9, c9, rfl⟩ := hu9.form;obtain ⟨A8, c8, rfl⟩ := hb9.form;have hx2 := he1.alloc (a0k op kind fa a (.slice A9 ins.length c9) (.slice A8 body.length c8));have HX2 := hid (HX0.o.trans hx2);have HB2 := hid (HB0.o.ext hx2);clear hu9 hb9 he1 hx2 c0 c1 c2 c3 c4 c5 HX0 HB0
 go_upto_region 2 with fail
 generalize w1.alloc (a0k op kind fa a (.slice A9 ins.length c9) (.slice A8 body.length c8)) = w2 at *;obtain ⟨c0, c1, c2, c3, c4, c5⟩ := HB2.o.cells
 go_wp2_with fail
 refine (HNDQ.o w2 HX2.o).mono ?_;rintro e w3 ⟨u7, b7, rfl, hu7, hb7, he3⟩;simp only [Nd.op, Nd.kind, Nd.fa, Nd.a, Nd.ins, Nd.body] at hu7 hb7 ⊢;obtain ⟨A7, c7, rfl⟩ := hu7.form;obtain ⟨A6, c6, rfl⟩ := hb7.form;have hx4 := he3.alloc (a0k op' kind' fa' a' (.slice A7 ins'.length c7) (.slice A6 body'.length c6));have HX4 := hid (HX2.o.trans hx4);have HB4 := hid (HB2.o.ext hx4);clear hu7 hb7 he3 hx4 c0 c1 c2 c3 c4 c5 HX2 HB2
 go_upto_region 3 with fail
 generalize w3.alloc (a0k op' kind' fa' a' (.slice A7 ins'.length c7) (.slice A6 body'.length c6)) = w4 at *;obtain ⟨r0, r1, f0, f1, t0, t1⟩ := HB4.o.rs
 cases sp with
 | false =>
  have HW := hid (show WO = none from by rw [HWO.o]; simp)
  go_wp2
  obtain ⟨y0, y1, hy⟩ := a5Y HB4.o.r HX4.o HPS.o (.bool false) (.int .i64 0);generalize ((w4.setCell ⟨n + 1 + 1 + 1, 0, none⟩ (.bool false)).setCell ⟨n + 1 + 1 + 1, 1, none⟩ (.int .i64 0)) = wz at *;exact bodyPost_ret (v := .tuple #[wV (false, 0), .bool false]) (by simp [results, Tryz.results72, go_sem, y0, y1]) rfl ⟨by rw [HW.o]; rfl, hy⟩
 | true =>
 cases sq with
 | false =>
  have HW := hid (show WO = none from by rw [HWO.o]; simp)
  go_wp2
  obtain ⟨y0, y1, hy⟩ := a5Y HB4.o.r HX4.o HPS.o (.bool false) (.int .i64 0);generalize ((w4.setCell ⟨n + 1 + 1 + 1, 0, none⟩ (.bool false)).setCell ⟨n + 1 + 1 + 1, 1, none⟩ (.int .i64 0)) = wz at *;exact bodyPost_ret (v := .tuple #[wV (false, 0), .bool false]) (by simp [results, Tryz.results72, go_sem, y0, y1]) rfl ⟨by rw [HW.o]; rfl, hy⟩
 | true =>
 have HW := hid (show WO = M (q1, q2) from by rw [HWO.o]; simp)
 have HWYA := hid (HWY.o rfl);have HWYX := hid (fun W (hW : Ext w4 W) => HWYA.o W (HX4.o.trans hW))
 clear r0 r1 f0 f1 t0 t1;obtain ⟨c0, c1, c2, c3, c4, c5⟩ := HB4.o.cells;obtain ⟨z1, z2, hzz⟩ : ∃ z1 z2, (M (q1, q2)).getD (false, 0) = (z1, z2) := ⟨_, _, rfl⟩;obtain ⟨hz, hhz⟩ : ∃ hz, (M (q1, q2)).isSome = hz := ⟨_, rfl⟩;have HZZ := hid hzz;have HHZ := hid hhz;clear hzz hhz;have HR4 := hid HB4.o.r;clear HB4;generalize n + 1 + 1 + 1 = nr at *;generalize n + 1 + 1 = nq at *;generalize n + 1 = np at *;have hA := World.block_lt_of_cell? w4 _ c0;have hB := World.block_lt_of_cell? w4 _ c2;have hC := World.block_lt_of_cell? w4 _ c4;simp only at hA hB hC;have hA1 : ¬ n = w4.heap.size := by omega
 have hB1 : ¬ np = w4.heap.size := by omega
 have hC1 : ¬ nq = w4.heap.size := by omega
 go_upto_region 5 with fail
 go_cut [12, 9] (fun s12 s9 wx => ∃ m, s12 = .pointer (some ⟨m, 0, none⟩) ∧ s9 = .bool hz ∧ w4.heap.size ≤ m ∧ Blk wx m 107 #[.bool z1, .int .i64 z2] ∧ Ext w4 wx)
 case first =>
  clear HR4 HX4 HNDP HNDQ HWO HW
  go_region_with (go_at_call 102; refine (HWYX.o _ (by repeat (first | exact Ext.refl _ | refine Ext.drew ?_ | refine Ext.alloc ?_ _))).mono ?_; rintro e w5 ⟨b5, rfl, hm5, he5⟩; have hx45 : Ext w4 w5 := Ext.trans (by repeat (first | exact Ext.refl _ | refine Ext.drew ?_ | refine Ext.alloc ?_ _)) he5; have d0 := hx45.cell c0; have d1 := hx45.cell c1; have d2 := hx45.cell c2; have d3 := hx45.cell c3; have d4 := hx45.cell c4; have d5 := hx45.cell c5; have hsz := hx45.size; have hA5 : ¬ n = w5.heap.size := (by omega); have hB5 : ¬ np = w5.heap.size := (by omega); have hC5 : ¬ nq = w5.heap.size := (by omega); have hxa : Ext w5 (w5.alloc (.cells #[.bool false, .int .i64 0] 107)) := ((Ext.refl w5).alloc _); have g4 := hxa.cell d4; have g5 := hxa.cell d5; have lk1 : (Instr.lookup 165 (.map (some b5)) (.agg #[.int .i64 q1, .int .i64 q2]) true).run Tryz.prog w5 = .ok (.tuple #[.agg #[.bool z1, .int .i64 z2], .bool hz]) w5 := (by have h := hm5.look (q1, q2); rw [HZZ.o, HHZ.o] at h; exact h); have lk2 : (Instr.lookup 165 (.map (some b5)) (.agg #[.int .i64 q1, .int .i64 q2]) true).run Tryz.prog (w5.alloc (.cells #[.bool false, .int .i64 0] 107)) = .ok (.tuple #[.agg #[.bool z1, .int .i64 z2], .bool hz]) (w5.alloc (.cells #[.bool false, .int .i64 0] 107)) := (by have h := (hm5.ext ((Ext.refl w5).alloc (.cells #[.bool false, .int .i64 0] 107))).look (q1, q2); rw [HZZ.o, HHZ.o] at h; exact h); try (have HBN := hid (((Blk.new w4 107 #[.bool false, .int .i64 0]).ext (Ext.refl _).drew).ext he5); have b0 := HBN.o.cell 0; have b1 := HBN.o.cell 1; have f0 := HBN.o.frozen 0; have f1 := HBN.o.frozen 1; have t0 := (HBN.o.a0C 0 (.bool z1)).frozen 1; have t1 := (HBN.o.a0C 0 (.bool z1)).cell 1))
  all_goals go_wp2
  all_goals go_meet
  all_goals first
   | exact ⟨_, rfl, rfl, Nat.le_refl _, (HBN.o.a0C 0 (.bool z1)).a0C 1 (.int .i64 z2), (hx45.setCell (p := ⟨w4.heap.size, 0, none⟩) (Nat.le_refl _) (.bool z1)).setCell (p := ⟨w4.heap.size, 1, none⟩) (Nat.le_refl _) (.int .i64 z2)⟩
   | exact ⟨_, rfl, rfl, hx45.size, Blk.new w5 107 #[.bool z1, .int .i64 z2], hx45.alloc _⟩
 case rest =>
 obtain ⟨m, rfl, rfl, hm, hbm, hx5⟩ := hcut;rename World => w6
 have HX6 := hid (HX4.o.trans hx5);have HR6 := hid (HR4.o.ext hx5);have b0 := hbm.c0;have b1 := hbm.c1;have r0 := HR6.o.cell 0;have r1 := HR6.o.cell 1;have f0 := HR6.o.frozen 0;have f1 := HR6.o.frozen 1;have t0 := fun u => (HR6.o.a0C 0 u).frozen 1
 have t1 := fun u => (HR6.o.a0C 0 u).cell 1
 clear c0 c1 c2 c3 c4 c5 hA hB hC hA1 hB1 hC1 hm hbm hx5
 go_wp2
 obtain ⟨y0, y1, hy⟩ := a5Y HR6.o HX6.o HPS.o (.bool z1) (.int .i64 z2);generalize ((w6.setCell ⟨nr, 0, none⟩ (.bool z1)).setCell ⟨nr, 1, none⟩ (.int .i64 z2)) = wz at *;exact bodyPost_ret (v := .tuple #[wV (z1, z2), .bool hz]) (by simp [results, Tryz.results72, go_sem, y0, y1]) rfl ⟨by rw [HW.o, HZZ.o, HHZ.o], hy⟩
end Go.Proofs.YtdkejfjcchlnpaaGreat
namespace Go.Ox.Pl
open Go.Ox.Gr Go.Proofs.YtdkejfjcchlnpaaGreat Go.Proofs.YtdkejfjcchlnpaaGreat.Mo
def cl (n : Int) (p : P2) : Nat := if 0 ≤ p.2 then 1 else if p.1 < n then 0 else 2
theorem a1C {n k : Int} : cl n (k, -1) = if k < n then 0 else 2 := by
 unfold cl; rw [if_neg (by simp)]
theorem a2p {n k : Int} (j : Nat) : cl n (k, (j : Int)) = 1 := by
 unfold cl; rw [if_pos (by simp)]
structure ArcC (n : Int) (a : Ar) : Prop where
 up : cl n a.1.1 ≤ cl n a.1.2
 st : a.2.1 = true → cl n a.1.1 < cl n a.1.2 ∧ a.2.2 = 0
 one : a.2.1 = false → (cl n a.1.1 = 1 ↔ cl n a.1.2 = 1)
 add : a.2.2 ≠ 0 → a.2.2 = 1 ∧ a.2.1 = false ∧ cl n a.1.1 = 1 ∧ cl n a.1.2 = 1
 top : cl n a.1.1 = cl n a.1.2 → cl n a.1.1 ≠ 1 → a.1.1.1 < a.1.2.1
 fwd : cl n a.1.1 = 1 → cl n a.1.2 = 1 → a.2.2 = 0 → a.1.1.2 < a.1.2.2
theorem arcC {g : G} {a : Ar} (h : a ∈ a1k g) : ArcC (a04 g.1) a := by
 obtain ⟨l, out⟩ := g
 cases hok : gOk (l, out) with
 | false =>
  have h1 : gPl (l, out) = [] := by unfold gPl; rw [if_neg (by rw [hok]; simp)]
  have := (a1b.1 h).1;rw [h1] at this; simp at this
 | true =>
 have hpl : gPl (l, out) = a0g l 0 := by unfold gPl; rw [if_pos hok]; rfl
 rw [← a3V] at h;unfold a4o at h;rw [List.mem_append, hpl, List.mem_flatMap] at h
 show ArcC (a04 l) a
 rcases h with ⟨p, hp, hx⟩ | hx
 · unfold a5W at hx
   obtain ⟨u, hu, he⟩ := List.mem_map.1 hx;obtain ⟨h1, h2, h3⟩ := b2E hok hp hu;rw [h2] at he;subst he
   rcases a2Z hok hp hu with ⟨k, m, hm, rfl, e, hkm, hin⟩ | ⟨k, n, m, hn, hm, rfl, hl, e, hkn, h11⟩ | ⟨k, j, m, hk, hm, rfl, e, hjm, hin⟩
   · rw [e]
     constructor
     · simp only [a1C]; split <;> split <;> omega
     · simp
     · simp only [a1C]; intro _; split <;> split <;> simp
     · simp
     · simp only [a1C]; intro _ _; omega
     simp only [a1C]; intro h; split at h <;> omega
   · rw [e, hl]
     constructor
     · simp only [a1C, a2p]; split <;> omega
     · simp only [a1C, a2p]; intro _; rw [if_pos (by omega)]; simp
     · simp
     · simp
     · simp only [a1C, a2p]; intro h; split at h <;> omega
     simp only [a1C, a2p]; intro h; split at h <;> omega
   rw [e];constructor
   · simp only [a2p]; omega
   · simp
     omega
   · simp only [a2p]; simp
   · simp
   · simp only [a2p]; simp
   simp only [a2p]; intro _ _ _; omega
 unfold a95 at hx
 by_cases hB : a1H (l, out) = true
 · rw [if_pos hB] at hx
   obtain ⟨n, hn, i0, -, hln, hN, h9, hb1, hb2, hi, hin, hhd, hla, hi0, hin2⟩ := b4F hB;rw [hN] at hhd;rw [hN, hhd, hln] at hx;have hlast : (l[n].body.length : Int) - 1 = ((l[n].body.length - 1 : Nat) : Int) := by omega
   rw [a4s, hlast] at hx;rw [hln]
   have D : ∀ m : Nat, ArcC (n : Int) ((((n : Int), ((l[n].body.length - 1 : Nat) : Int)), ((n : Int), (m : Int))), (false, 1)) := by
    intro m;constructor
    · simp only [a2p]; omega
    · simp
    · simp only [a2p]; simp
    · simp only [a2p]; simp
    · simp only [a2p]; simp
    simp
   rcases hx with hx | ⟨v, hv, hx | hx⟩ | ⟨v, hv, hx⟩
   · subst hx
     constructor
     · simp only [a2p, a1C]; rw [if_neg (by omega)]; omega
     · simp only [a2p, a1C]; intro _; rw [if_neg (by omega)]; simp
     · simp
     · simp
     · simp only [a2p, a1C]; intro h; split at h <;> omega
     simp only [a2p, a1C]; intro _ h; split at h <;> omega
   · obtain ⟨m, hm, e, h10⟩ := a30.1 hv
     rw [Nat.zero_add] at e;subst e;subst hx;constructor
     · simp only [a2p, a1C]; split <;> omega
     · simp only [a2p, a1C]; intro _; rw [if_pos (by omega)]; simp
     · simp
     · simp
     · simp only [a2p, a1C]; intro h; split at h <;> omega
     simp only [a2p, a1C]; intro h; split at h <;> omega
   · obtain ⟨m, hm, e, h10⟩ := a30.1 hv
     rw [Nat.zero_add] at e;subst e;subst hx;exact D m
   obtain ⟨m, hm, e, h10⟩ := a30.1 hv;rw [Nat.zero_add] at e;subst e;subst hx;exact D m
 rw [if_neg hB] at hx; simp at hx
def fW (w : Wy) (m : Int) : Int := if w.1 = true then w.2 else m + w.2
theorem b08 (x a : Wy) (m : Int) : fW (thn x a) m = fW a (fW x m) := by
 unfold fW thn
 by_cases h : a.1 = true
 · rw [if_pos h, if_pos h, if_pos h]
 rw [if_neg h, if_neg h];simp only
 split <;> omega
theorem b2Z (w : Wy) {a b : Int} (h : a ≤ b) : fW w a ≤ fW w b := by
 unfold fW; split <;> omega
theorem b30 : ∀ (ws : List Ar) (x : Wy) (m : Int), fW (val x ws) m = fW (val (false, 0) ws) (fW x m)
 | [], x, m => by show fW x m = fW (false, 0) (fW x m); unfold fW; simp
 | a :: r, x, m => by
  show fW (val (thn x a.2) r) m = fW (val (thn (false, 0) a.2) r) (fW x m);rw [b30 r (thn x a.2) m, b30 r (thn (false, 0) a.2) (fW x m), b08, b08];have : fW (false, 0) (fW x m) = fW x m := by unfold fW; simp
  rw [this]
structure Ty (n : Int) (p v : P2) (w : Wy) : Prop where
 up : cl n p ≤ cl n v
 st : w.1 = true → cl n p < cl n v
 one : cl n v = 1 → w.1 = decide (cl n p ≠ 1)
 zer : cl n v ≠ 1 → w.2 = 0
 pos : 0 ≤ w.2
theorem ty0 (n : Int) (p : P2) : Ty n p p (false, 0) := ⟨Nat.le_refl _, by simp, by intro h; simp [h], fun _ => rfl, Int.le_refl _⟩
theorem Ty.step {n : Int} {p : P2} {x : Wy} {a : Ar} (h : Ty n p a.1.1 x) (c : ArcC n a) : Ty n p a.1.2 (thn x a.2) := by
 obtain ⟨⟨u, v⟩, ⟨s, b⟩⟩ := a;obtain ⟨h1, h2, h3, h4, h5⟩ := h;obtain ⟨c1, c2, c3, c4, c5, c6⟩ := c;simp only at *
 cases s with
 | true =>
  have c2 := c2 rfl;obtain ⟨c2, c2'⟩ := c2;subst c2';refine ⟨by omega, fun _ => by omega, ?_, ?_, ?_⟩
  · intro hv
    show true = _;have : cl n p ≠ 1 := by omega
    simp [this]
  · intro _; rfl
  exact Int.le_refl _
 | false =>
 have c3 := c3 rfl;refine ⟨by omega, ?_, ?_, ?_, ?_⟩
 · intro e
   have := h2 e;omega
 · intro hv
   show x.1 = _;exact h3 (c3.2 hv)
 · intro hv
   have hu : cl n u ≠ 1 := fun e => hv (c3.1 e)
   have hb : b = 0 := by
    by_cases q : b = 0
    · exact q
    exact absurd (c4 q).2.2.2 hv
   show x.2 + b = 0;rw [h4 hu, hb]; rfl
 show 0 ≤ x.2 + b
 have : 0 ≤ b := by
  by_cases q : b = 0
  · omega
  have := (c4 q).1; omega
 omega
theorem Ty.walk {g : G} {p0 p : P2} : ∀ {ws : List Ar} {u v : P2} {x : Wy}, Ty (a04 g.1) p u x → Wk (a1k g) p0 u ws v → Ty (a04 g.1) p v (val x ws)
 | [], u, v, x, h, hw => by
  have : u = v := hw;subst this;exact h
 | a :: r, u, v, x, h, hw => by
  obtain ⟨h1, h2, h3, h4⟩ := hw;subst h2;exact (h.step (arcC h1)).walk (ws := r) h4
theorem Ty.le_f {n : Int} {p v : P2} {x y : Wy} (hx : Ty n p v x) (hy : Ty n p v y) (h : le x y) {m : Int} (hm : 0 ≤ m) : fW x m ≤ fW y m := by
 rw [le_iff] at h;unfold fW
 by_cases hv : cl n v = 1
 · rw [hx.one hv, hy.one hv]
   split <;> omega
 have e1 := hx.zer hv;have e2 := hy.zer hv;rw [e1, e2]
 rcases h with h | ⟨h, h2⟩
 · omega
 by_cases q : y.1 = true
 · rw [if_pos q, if_pos (h2 q)]; exact Int.le_refl _
 rw [if_neg q]
 split <;> omega
theorem a9g {g : G} (hn : (gPl g).length ≤ 20) {p : P2} (hp : p ∈ gPl g) {v : P2} {w : Wy} (h : a4H g p v = some w) : Ty (a04 g.1) p v w := by
 obtain ⟨ws, hw, hv⟩ := (a2o hn hp).walk v w h;rw [← hv];exact (ty0 _ p).walk hw
theorem a7h {g : G} (hn : (gPl g).length ≤ 20) {p : P2} (hp : p ∈ gPl g) {q r : P2} : ∀ {ws : List Ar} {u : P2} {x y : Wy}, Ty (a04 g.1) p u x → a4H g p u = some y → (∀ m, 0 ≤ m → fW y m ≤ fW x m) → Wk (a1k g) q u ws r → ∃ z, a4H g p r = some z ∧ ∀ m, 0 ≤ m → fW z m ≤ fW (val x ws) m
 | [], u, x, y, ht, hy, hl, hw => by
  have : u = r := hw;subst this;exact ⟨y, hy, hl⟩
 | a :: s, u, x, y, ht, hy, hl, hw => by
  obtain ⟨h1, h2, h3, h4⟩ := hw;subst h2;have hc := arcC h1;have ht' := ht.step hc
  by_cases hv : a.1.2 = p
  · refine a7h hn hp (ws := s) (u := a.1.2) (x := thn x a.2) (y := (false, 0)) ht' (by rw [hv]; exact (a2o hn hp).self) (fun m hm => ?_) h4
    rw [hv] at ht'
    have e1 : (thn x a.2).1 = false := by
     cases q : (thn x a.2).1 with
     | false => rfl
     | true => have := ht'.st q; omega
    have e2 := ht'.pos;unfold fW;rw [e1];simp;omega
  · obtain ⟨z, hz, hzl⟩ := (a2o hn hp).closed a h1 y hy hv
    refine a7h hn hp (ws := s) (u := a.1.2) (x := thn x a.2) (y := z) ht' hz (fun m hm => ?_) h4
    have ty := (a9g hn hp hy).step hc;have := (a9g hn hp hz).le_f ty hzl hm;rw [b08] at this;rw [b08];exact Int.le_trans this (b2Z _ (hl m hm))
theorem b31 {g : G} (hn : (gPl g).length ≤ 20) {p q r : P2} (hp : p ∈ gPl g) (hq : q ∈ gPl g) {x y : Wy} (h1 : a4H g p q = some x) (h2 : a4H g q r = some y) : ∃ z, a4H g p r = some z ∧ ∀ m, 0 ≤ m → fW z m ≤ fW y (fW x m) := by
 obtain ⟨ws, hw, hv⟩ := (a2o hn hq).walk r y h2;obtain ⟨z, hz, hl⟩ := a7h hn hp (a9g hn hp h1) h1 (fun m _ => Int.le_refl _) hw
 refine ⟨z, hz, fun m hm => ?_⟩
 have := hl m hm;rw [b30, hv] at this;exact this
theorem a4T {w : Wy} {m : Mom.M} : (a11 w m).2 = 0 ↔ 0 ≤ w.2 ∧ w.2 < 65536 ∧ Mom.ok m = true ∧ Mom.ok (m.1, fW w m.2) = true := by
 have e : a1x w m = (m.1, fW w m.2) := by
  unfold a1x fW
  split <;> simp
 unfold a11;rw [e];constructor
 · intro h
   split at h
   · simp at h
   split at h
   · simp at h
   split at h
   · simp at h
   rename_i h1 h2 h3
   unfold okW at h1;simp at h1;exact ⟨h1.1, h1.2, by simpa using h2, by simpa using h3⟩
 rintro ⟨h1, h2, h3, h4⟩;have : okW w = true := by unfold okW; simp [h1, h2]
 rw [if_neg (by rw [this]; simp), if_neg (by rw [h3]; simp), if_neg (by rw [h4]; simp)]
theorem a5E {w : Wy} {m : Mom.M} (h : (a11 w m).2 = 0) : (a11 w m).1 = (m.1, fW w m.2) := by
 have e : a1x w m = (m.1, fW w m.2) := by
  unfold a1x fW
  split <;> simp
 obtain ⟨h1, h2, h3, h4⟩ := a4T.1 h;unfold a11;rw [e];have : okW w = true := by unfold okW; simp [h1, h2]
 rw [if_neg (by rw [this]; simp), if_neg (by rw [h3]; simp), if_neg (by rw [h4]; simp)]
end Go.Ox.Pl
