/-
  GrRefB, GrRefC, GrRef, Fr4, Fr9, GrArgs, packed: what the claim needs of them.
-/
import Derived.Test.YtdkejfjcchlnpaaGreatFt43
import Derived.Test.YtdkejfjcchlnpaaGreatFt39
set_option maxHeartbeats 40000000
open Go.Lib (hid)
set_option linter.unusedSimpArgs false
set_option linter.unusedVariables false
set_option maxRecDepth 100000
namespace Go.Proofs.YtdkejfjcchlnpaaGreat
open Go.RowKit Go.Ox Go.Ox.Gr
attribute [local irreducible] RE a00
theorem rn_p (op kind fa a loop : Int) (u b : Value) (ins : List Int) (body : List Nd) (d at_ : Nat) (lb : Bool) (w : World) (hl : loop = -1 ∨ 0 <= loop) (hu : RE w u ins) (hb : a00 d w b body)
 (hli : op = 9 -> a0K op a loop = true -> ∀ W, Ext w W -> Calls Tryz.prog 85 #[b, .int .i64 (at_ : Int)] W fun e W' => e = .returned (.bool lb) ∧ Ext W W')
 (k1 : 1 <= op) (k2 : op <= 11) (k3 : (ins.length : Int) = arity op) (kf : a2I op = 0) (k9 : ¬ op = 9) (hk0 : kind = 0) (hf0 : fa = 0) :
 Calls Tryz.prog 51 #[a1e op kind fa a u b, .int .i64 (at_ : Int), .int .i64 loop] w fun e w' => e = .returned (.bool (a1D loop lb (.mk op ins kind fa a body) at_)) ∧ Ext w w' := by
 have HR := hid (show a1D loop lb (.mk op ins kind fa a body) at_ = ((a5N op && (decide ((ins.length : Int) = arity op) && a2j ins at_)) && (fnB (a2I op) kind fa && (a0K op a loop && (if op = 9 then lb else body.isEmpty)))) from by
  unfold a1D base
  rw [a7I, a5j]; rfl)
 generalize a1D loop lb (.mk op ins kind fa a body) at_ = res at *;have HAR := hid (fun w => a3g op w)
 have HX0 := hid ((Ext.refl w).alloc (a0m op kind fa a u b));have HB0 := hid (Bx6.new w 101 (.int .i64 op) u (.int .i64 kind) (.int .i64 fa) (.int .i64 a) b);have HU := hid (hu.ext HX0.o);obtain ⟨Au, cu, rfl⟩ := hu.form;obtain ⟨Ab, cb, rfl⟩ := hb.form;have HFA := hid (fun w => a3u op w)
 have HFV := hid (fun w => a5L kind fa w)
 have HLI := hid hli;have HIL := hid (show ins.length <= 1000000 by have := a1P op; omega)
 have HBE := hid (show body.isEmpty = decide (body.length = 0) from by cases body <;> simp)
 replace HR := hid (show res = (a2j ins at_ && (fnB (a2I op) kind fa && (a0K op a loop && (if op = 9 then lb else body.isEmpty)))) from by
  rw [HR.o, decide_eq_true k3, show a5N op = true by unfold a5N; rw [decide_eq_true k1, decide_eq_true k2]; rfl, Bool.true_and, Bool.true_and])
 have o1 : ¬ op < 1 := by omega
 have o2 : ¬ 11 < op := by omega
 have hbn : ((ins.length : Int) != arity op) = false := by simpa using k3
 rw [kf] at HFA;have HFN := hid (show fnB (a2I op) kind fa = true from by unfold fnB; rw [if_pos kf, hk0, hf0]; rfl)
 subst hk0;subst hf0;clear kf;have hb9 : (op != 9) = true := by simpa using k9
 clear hu hb hli k1 k2 k3;generalize body.isEmpty = be at *;generalize body.length = bl at *;generalize arity op = ar at *;generalize fnB (a2I op) 0 0 = fB at *
 go_enter Tryz.func51, Tryz.ntmps51
 go_upto_region 1 with fail
 generalize w.heap.size = p at *;generalize w.alloc (a0m op 0 0 a (.slice Au ins.length cu) (.slice Ab bl cb)) = w0 at *;obtain ⟨c0, c1, c2, c3, c4, c5⟩ := HB0.o.at_;refine yx ?_;refine ya ?_;refine yl1 c0 ?_;refine ya ?_;refine yl1 c0 ?_;refine ya ?_;refine yl1 c1 ?_;refine ya ?_;refine yl1 c0 ?_;refine yd1 (.int .i64 ar) (fun w' _ => HAR.o w') ?_
 refine ya ?_;refine a01 ?_;intro w1 hx1 hS1
 iterate 17 (rintro _ rfl)
 dsimp only [a0y];go_simp;have hx1 : Ext w0 w1 := hx1;have HX1 := hid (HX0.o.trans hx1);have HB1 := hid (HB0.o.ext hx1);have HU1 := hid (HU.o.ext hx1);clear hx1 hS1 c0 c1 c2 c3 c4 c5 HU HB0 HAR hbn
 go_wp2
 go_loopw [7] (fun iv wr => ∃ k : Nat, k <= ins.length ∧ iv = .int .i64 (k : Int) ∧ a2j (ins.take k) at_ = true ∧ Ext w1 wr) (fun iv _ => ins.length - (intOf iv).toNat)
 case atStart => exact ⟨0, Nat.zero_le _, rfl, rfl, Ext.refl _⟩
 case round =>
 obtain ⟨k, hk, rfl, hp, hext⟩ := hrel;have HP := hid hp;have HE := hid (HX1.o.trans hext);have HEX := hid hext;have HBR := hid (HB1.o.ext hext);obtain ⟨c0, c1, c2, c3, c4, c5⟩ := HBR.o.at_;clear hp
 by_cases hlt : k < ins.length
 . have q1 : (k : Int) < (ins.length : Int) := by omega
   have q0 : 0 <= (k : Int) := by omega
   have q1n : k < ins.length := hlt;have HLT := hid hlt;have hkb : k <= 1000000 := by have := HIL.o; omega
   obtain ⟨bA, oA, rfl, y0⟩ := ri1 (HU1.o.ext hext) hlt;have HS := hid (a9h ins at_ hlt);rw [HP.o, Bool.true_and] at HS;have HBAD := hid (fun (hx : ¬ (0 <= ins[k] ∧ ins[k] < (at_ : Int))) => show res = false from by rw [HR.o, a7j ins at_ hlt hx, Bool.false_and])
   generalize ins[k] = x at *;clear hext hlt hk
   by_cases x0 : x < 0
   . obtain rfl : res = false := HBAD.o (by omega)
     go_wp2
     go_ret
     exact ⟨rfl, HE.o⟩
   by_cases x1 : (at_ : Int) <= x
   . obtain rfl : res = false := HBAD.o (by omega)
     go_wp2
     go_ret
     exact ⟨rfl, HE.o⟩
   have HA := hid (show ahB x at_ = true by unfold ahB; rw [decide_eq_true (show 0 <= x by omega), decide_eq_true (show x < (at_ : Int) by omega)]; rfl)
   go_wp2
   exact ⟨⟨k + 1, HLT.o, by go_num, by rw [HS.o, HA.o], HEX.o⟩, by have := HLT.o; simp [intOf]; omega⟩
 obtain rfl : k = ins.length := by omega
 have q1 : ¬ (ins.length : Int) < (ins.length : Int) := by omega
 rw [List.take_length] at HP;replace HR := hid (show res = (fB && (a0K op a loop && (if op = 9 then lb else be))) from by rw [HR.o, HP.o, Bool.true_and])
 clear hext hk hlt HP HEX HU1 HB1 HX1 HIL
 go_upto_region 8 with fail
 by_cases kb : bl = 0
 . replace HR := hid (show res = a0K op a loop from by rw [HR.o, HFN.o, if_neg k9, HBE.o, decide_eq_true kb, Bool.and_true]; rfl)
   have hb0 : ¬ (0 : Int) < (bl : Int) := by omega
   clear kb;refine yx ?_;refine ya ?_;refine yl1 c0 ?_;refine yd1 (.int .i64 0) (fun w' _ => HFA.o w') ?_
   refine ya ?_;refine yl1 c0 ?_;refine yd1 (.int .i64 0) (fun w' _ => HFA.o w') ?_
   refine ya ?_;refine yl2 c2 c3 ?_;refine ya ?_;refine ya ?_;refine ya ?_;refine yl1 c0 ?_;refine ya ?_;refine yl1 c5 ?_;refine ya ?_;refine a01 ?_;intro w5 hx5 hS5
   iterate 36 (rintro _ rfl)
   dsimp only [a0y];go_simp;have hx5 : Ext wr w5 := hx5;have HX5 := hid (HE.o.trans hx5);have HB5 := hid (HBR.o.ext hx5);clear hx5 hS5 c0 c1 c2 c3 c4 c5;obtain ⟨c0, c1, c2, c3, c4, c5⟩ := HB5.o.at_;clear HFA HFV HBR HE HFN HBE
   by_cases n1 : op = 1
   . subst n1
     rcases hl with rfl | hl
     . by_cases h0 : 0 <= a
       . by_cases h1 : a < 4
         . obtain rfl : res = true := by rw [HR.o]; unfold a0K; simp <;> omega
           go_wp2_with fail
           go_ret
           exact ⟨by first | rfl | (show Ending.returned (.bool (decide (a < 4))) = .returned (.bool true); rw [decide_eq_true (by omega)]), HX5.o⟩
         obtain rfl : res = false := by rw [HR.o]; unfold a0K; simp <;> omega
         go_wp2_with fail
         go_ret
         exact ⟨by first | rfl | (show Ending.returned (.bool (decide (a < 4))) = .returned (.bool false); rw [decide_eq_false (by omega)]), HX5.o⟩
       obtain rfl : res = false := by rw [HR.o]; unfold a0K; simp <;> omega
       go_wp2_with fail
       go_ret
       exact ⟨rfl, HX5.o⟩
     obtain rfl : res = false := by rw [HR.o]; unfold a0K; simp <;> omega
     have hln : ¬ loop < 0 := by omega
     go_wp2_with fail
     go_ret
     exact ⟨rfl, HX5.o⟩
   by_cases n10 : op = 10
   . subst n10
     rcases hl with rfl | hl
     . obtain rfl : res = false := by rw [HR.o]; unfold a0K; simp <;> omega
       go_wp2_with fail
       go_ret
       exact ⟨rfl, HX5.o⟩
     by_cases h0 : a = 0
     . subst h0
       obtain rfl : res = true := by rw [HR.o]; unfold a0K; simp <;> omega
       go_wp2_with fail
       go_ret
       exact ⟨rfl, HX5.o⟩
     obtain rfl : res = false := by rw [HR.o]; unfold a0K; simp <;> omega
     have hb : (a == 0) = false := by simpa using h0
     go_wp2_with fail
     go_ret
     exact ⟨rfl, HX5.o⟩
   by_cases n11 : op = 11
   . subst n11
     rcases hl with rfl | hl
     . obtain rfl : res = false := by rw [HR.o]; unfold a0K; simp <;> omega
       go_wp2_with fail
       go_ret
       exact ⟨rfl, HX5.o⟩
     by_cases h0 : 0 <= a
     . by_cases h1 : a < loop
       . obtain rfl : res = true := by rw [HR.o]; unfold a0K; simp <;> omega
         go_wp2_with fail
         go_ret
         exact ⟨by first | rfl | (show Ending.returned (.bool (decide (a < loop))) = .returned (.bool true); rw [decide_eq_true (by omega)]), HX5.o⟩
       obtain rfl : res = false := by rw [HR.o]; unfold a0K; simp <;> omega
       go_wp2_with fail
       go_ret
       exact ⟨by first | rfl | (show Ending.returned (.bool (decide (a < loop))) = .returned (.bool false); rw [decide_eq_false (by omega)]), HX5.o⟩
     obtain rfl : res = false := by rw [HR.o]; unfold a0K; simp <;> omega
     go_wp2_with fail
     go_ret
     exact ⟨rfl, HX5.o⟩
   have hn : a0K op a loop = decide (a = 0) := by unfold a0K; rw [if_neg n1, if_neg k9, if_neg n10, if_neg n11]
   rw [hn] at HR;have m1 : (op == 1) = false := by simpa using n1
   have m9 : (op == 9) = false := by simpa using k9
   have m10 : (op == 10) = false := by simpa using n10
   have m11 : (op == 11) = false := by simpa using n11
   clear n1 k9 n10 n11 hn
   by_cases h0 : a = 0
   . subst h0
     obtain rfl : res = true := by rw [HR.o]; rfl
     go_wp2_with fail
     go_ret
     exact ⟨rfl, HX5.o⟩
   obtain rfl : res = false := by rw [HR.o]; exact decide_eq_false h0
   have hb : (a == 0) = false := by simpa using h0
   go_wp2_with fail
   go_ret
   exact ⟨rfl, HX5.o⟩
 have HV := hid (show res = false from by rw [HR.o, if_neg k9, HBE.o, decide_eq_false kb, Bool.and_false, Bool.and_false])
 have hb0 : (0 : Int) < (bl : Int) := by omega
 clear kb;refine yx ?_;refine ya ?_;refine yl1 c0 ?_;refine yd1 (.int .i64 0) (fun w' _ => HFA.o w') ?_
 refine ya ?_;refine yl1 c0 ?_;refine yd1 (.int .i64 0) (fun w' _ => HFA.o w') ?_
 refine ya ?_;refine yl2 c2 c3 ?_;refine ya ?_;refine ya ?_;refine ya ?_;refine yl1 c0 ?_;refine ya ?_;refine yl1 c5 ?_;refine ya ?_;refine a01 ?_;intro w5 hx5 hS5
 iterate 36 (rintro _ rfl)
 dsimp only [a0y];go_simp;have hx5 : Ext wr w5 := hx5;have HX5 := hid (HE.o.trans hx5);have HB5 := hid (HBR.o.ext hx5);clear hx5 hS5 c0 c1 c2 c3 c4 c5;obtain rfl : res = false := HV.o
 go_wp2
 go_ret
 exact ⟨rfl, HX5.o⟩
end Go.Proofs.YtdkejfjcchlnpaaGreat
namespace Go.Proofs.YtdkejfjcchlnpaaGreat
open Go.RowKit Go.Ox Go.Ox.Gr
attribute [local irreducible] RE a00
theorem rn_f (op kind fa a loop : Int) (u b : Value) (ins : List Int) (body : List Nd) (d at_ : Nat) (lb : Bool) (w : World) (hl : loop = -1 ∨ 0 <= loop) (hu : RE w u ins) (hb : a00 d w b body)
 (hli : op = 9 -> a0K op a loop = true -> ∀ W, Ext w W -> Calls Tryz.prog 85 #[b, .int .i64 (at_ : Int)] W fun e W' => e = .returned (.bool lb) ∧ Ext W W')
 (k1 : 1 <= op) (k2 : op <= 11) (k3 : (ins.length : Int) = arity op) (kf : ¬ a2I op = 0) :
 Calls Tryz.prog 51 #[a1e op kind fa a u b, .int .i64 (at_ : Int), .int .i64 loop] w fun e w' => e = .returned (.bool (a1D loop lb (.mk op ins kind fa a body) at_)) ∧ Ext w w' := by
 have HR := hid (show a1D loop lb (.mk op ins kind fa a body) at_ = ((a5N op && (decide ((ins.length : Int) = arity op) && a2j ins at_)) && (fnB (a2I op) kind fa && (a0K op a loop && (if op = 9 then lb else body.isEmpty)))) from by
  unfold a1D base
  rw [a7I, a5j]; rfl)
 generalize a1D loop lb (.mk op ins kind fa a body) at_ = res at *;have HAR := hid (fun w => a3g op w)
 have HX0 := hid ((Ext.refl w).alloc (a0m op kind fa a u b));have HB0 := hid (Bx6.new w 101 (.int .i64 op) u (.int .i64 kind) (.int .i64 fa) (.int .i64 a) b);have HU := hid (hu.ext HX0.o);obtain ⟨Au, cu, rfl⟩ := hu.form;obtain ⟨Ab, cb, rfl⟩ := hb.form;have HFA := hid (fun w => a3u op w)
 have HFV := hid (fun w => a5L kind fa w)
 have HLI := hid hli;have HIL := hid (show ins.length <= 1000000 by have := a1P op; omega)
 have HBE := hid (show body.isEmpty = decide (body.length = 0) from by cases body <;> simp)
 replace HR := hid (show res = (a2j ins at_ && (fnB (a2I op) kind fa && (a0K op a loop && (if op = 9 then lb else body.isEmpty)))) from by
  rw [HR.o, decide_eq_true k3, show a5N op = true by unfold a5N; rw [decide_eq_true k1, decide_eq_true k2]; rfl, Bool.true_and, Bool.true_and])
 have o1 : ¬ op < 1 := by omega
 have o2 : ¬ 11 < op := by omega
 have hbn : ((ins.length : Int) != arity op) = false := by simpa using k3
 have HOP := hid (show op ≠ 1 ∧ op ≠ 9 ∧ op ≠ 10 ∧ op ≠ 11 from by refine ⟨?_, ?_, ?_, ?_⟩ <;> (rintro rfl; exact kf rfl))
 have HFN := hid (show fnB (a2I op) kind fa = (fam kind fa == a2I op) from if_neg kf);have hfp : (0 : Int) < a2I op := by have := b0r op; omega
 have hf0b : (a2I op == 0) = false := by simpa using kf
 have hb9 : (op != 9) = true := by simpa using HOP.o.2.1
 clear kf;clear hu hb hli k1 k2 k3;generalize body.isEmpty = be at *;generalize body.length = bl at *;generalize arity op = ar at *;generalize fnB (a2I op) kind fa = fB at *;generalize a2I op = fm at *;generalize fam kind fa = fv at *
 go_enter Tryz.func51, Tryz.ntmps51
 go_upto_region 1 with fail
 generalize w.heap.size = p at *;generalize w.alloc (a0m op kind fa a (.slice Au ins.length cu) (.slice Ab bl cb)) = w0 at *;obtain ⟨c0, c1, c2, c3, c4, c5⟩ := HB0.o.at_;refine yx ?_;refine ya ?_;refine yl1 c0 ?_;refine ya ?_;refine yl1 c0 ?_;refine ya ?_;refine yl1 c1 ?_;refine ya ?_;refine yl1 c0 ?_;refine yd1 (.int .i64 ar) (fun w' _ => HAR.o w') ?_
 refine ya ?_;refine a01 ?_;intro w1 hx1 hS1
 iterate 17 (rintro _ rfl)
 dsimp only [a0y];go_simp;have hx1 : Ext w0 w1 := hx1;have HX1 := hid (HX0.o.trans hx1);have HB1 := hid (HB0.o.ext hx1);have HU1 := hid (HU.o.ext hx1);clear hx1 hS1 c0 c1 c2 c3 c4 c5 HU HB0 HAR hbn
 go_wp2
 go_loopw [7] (fun iv wr => ∃ k : Nat, k <= ins.length ∧ iv = .int .i64 (k : Int) ∧ a2j (ins.take k) at_ = true ∧ Ext w1 wr) (fun iv _ => ins.length - (intOf iv).toNat)
 case atStart => exact ⟨0, Nat.zero_le _, rfl, rfl, Ext.refl _⟩
 case round =>
 obtain ⟨k, hk, rfl, hp, hext⟩ := hrel;have HP := hid hp;have HE := hid (HX1.o.trans hext);have HEX := hid hext;have HBR := hid (HB1.o.ext hext);obtain ⟨c0, c1, c2, c3, c4, c5⟩ := HBR.o.at_;clear hp
 by_cases hlt : k < ins.length
 . have q1 : (k : Int) < (ins.length : Int) := by omega
   have q0 : 0 <= (k : Int) := by omega
   have q1n : k < ins.length := hlt;have HLT := hid hlt;have hkb : k <= 1000000 := by have := HIL.o; omega
   obtain ⟨bA, oA, rfl, y0⟩ := ri1 (HU1.o.ext hext) hlt;have HS := hid (a9h ins at_ hlt);rw [HP.o, Bool.true_and] at HS;have HBAD := hid (fun (hx : ¬ (0 <= ins[k] ∧ ins[k] < (at_ : Int))) => show res = false from by rw [HR.o, a7j ins at_ hlt hx, Bool.false_and])
   generalize ins[k] = x at *;clear hext hlt hk
   by_cases x0 : x < 0
   . obtain rfl : res = false := HBAD.o (by omega)
     go_wp2
     go_ret
     exact ⟨rfl, HE.o⟩
   by_cases x1 : (at_ : Int) <= x
   . obtain rfl : res = false := HBAD.o (by omega)
     go_wp2
     go_ret
     exact ⟨rfl, HE.o⟩
   have HA := hid (show ahB x at_ = true by unfold ahB; rw [decide_eq_true (show 0 <= x by omega), decide_eq_true (show x < (at_ : Int) by omega)]; rfl)
   go_wp2
   exact ⟨⟨k + 1, HLT.o, by go_num, by rw [HS.o, HA.o], HEX.o⟩, by have := HLT.o; simp [intOf]; omega⟩
 obtain rfl : k = ins.length := by omega
 have q1 : ¬ (ins.length : Int) < (ins.length : Int) := by omega
 rw [List.take_length] at HP;replace HR := hid (show res = (fB && (a0K op a loop && (if op = 9 then lb else be))) from by rw [HR.o, HP.o, Bool.true_and])
 clear hext hk hlt HP HEX HU1 HB1 HX1 HIL
 go_upto_region 8 with fail
 by_cases kv : fv = fm
 case neg =>
  have hfn : (fv != fm) = true := by simpa using kv
  have HV := hid (show res = false from by rw [HR.o, HFN.o, show (fv == fm) = false by simpa using kv, Bool.false_and])
  clear kv;refine yx ?_;refine ya ?_;refine yl1 c0 ?_;refine yd1 (.int .i64 fm) (fun w' _ => HFA.o w') ?_
  refine ya ?_;refine yl2 c2 c3 ?_;refine yc1 (.int .i64 fv) (fun w' _ => HFV.o w') ?_
  refine ya ?_;refine yl1 c0 ?_;refine yd1 (.int .i64 fm) (fun w' _ => HFA.o w') ?_
  refine ya ?_;refine a01 ?_;intro w5 hx5 hS5
  iterate 36 (rintro _ rfl)
  dsimp only [a0y];go_simp;have hx5 : Ext wr w5 := hx5;have HX5 := hid (HE.o.trans hx5);have HB5 := hid (HBR.o.ext hx5);clear hx5 hS5 c0 c1 c2 c3 c4 c5;obtain rfl : res = false := HV.o
  go_wp2
  go_ret
  exact ⟨rfl, HX5.o⟩
 have hfn : (fv != fm) = false := by simpa using kv
 have HFE := hid (show (fv == fm) = true by simpa using kv)
 clear kv
 by_cases kb : bl = 0
 . replace HR := hid (show res = decide (a = 0) from by rw [HR.o, HFN.o, HFE.o, if_neg HOP.o.2.1, HBE.o, decide_eq_true kb, Bool.and_true, Bool.true_and]; unfold a0K; rw [if_neg HOP.o.1, if_neg HOP.o.2.1, if_neg HOP.o.2.2.1, if_neg HOP.o.2.2.2])
   have hb0 : ¬ (0 : Int) < (bl : Int) := by omega
   clear kb;refine yx ?_;refine ya ?_;refine yl1 c0 ?_;refine yd1 (.int .i64 fm) (fun w' _ => HFA.o w') ?_
   refine ya ?_;refine yl2 c2 c3 ?_;refine yc1 (.int .i64 fv) (fun w' _ => HFV.o w') ?_
   refine ya ?_;refine yl1 c0 ?_;refine yd1 (.int .i64 fm) (fun w' _ => HFA.o w') ?_
   refine ya ?_;refine yl1 c0 ?_;refine yd1 (.int .i64 fm) (fun w' _ => HFA.o w') ?_
   refine ya ?_;refine yl1 c0 ?_;refine ya ?_;refine yl1 c5 ?_;refine ya ?_;refine a01 ?_;intro w5 hx5 hS5
   iterate 36 (rintro _ rfl)
   dsimp only [a0y];go_simp;have hx5 : Ext wr w5 := hx5;have HX5 := hid (HE.o.trans hx5);have HB5 := hid (HBR.o.ext hx5);clear hx5 hS5 c0 c1 c2 c3 c4 c5;obtain ⟨c0, c1, c2, c3, c4, c5⟩ := HB5.o.at_;clear HFA HFV HBR HE HFN HBE;obtain ⟨n1, k9, n10, n11⟩ := HOP.o;have hn := HOP;have m1 : (op == 1) = false := by simpa using n1
   have m9 : (op == 9) = false := by simpa using k9
   have m10 : (op == 10) = false := by simpa using n10
   have m11 : (op == 11) = false := by simpa using n11
   clear n1 k9 n10 n11 hn
   by_cases h0 : a = 0
   . subst h0
     obtain rfl : res = true := by rw [HR.o]; rfl
     go_wp2_with fail
     go_ret
     exact ⟨rfl, HX5.o⟩
   obtain rfl : res = false := by rw [HR.o]; exact decide_eq_false h0
   have hb : (a == 0) = false := by simpa using h0
   go_wp2_with fail
   go_ret
   exact ⟨rfl, HX5.o⟩
 have HV := hid (show res = false from by rw [HR.o, if_neg HOP.o.2.1, HBE.o, decide_eq_false kb, Bool.and_false, Bool.and_false])
 have hb0 : (0 : Int) < (bl : Int) := by omega
 clear kb;refine yx ?_;refine ya ?_;refine yl1 c0 ?_;refine yd1 (.int .i64 fm) (fun w' _ => HFA.o w') ?_
 refine ya ?_;refine yl2 c2 c3 ?_;refine yc1 (.int .i64 fv) (fun w' _ => HFV.o w') ?_
 refine ya ?_;refine yl1 c0 ?_;refine yd1 (.int .i64 fm) (fun w' _ => HFA.o w') ?_
 refine ya ?_;refine yl1 c0 ?_;refine yd1 (.int .i64 fm) (fun w' _ => HFA.o w') ?_
 refine ya ?_;refine yl1 c0 ?_;refine ya ?_;refine yl1 c5 ?_;refine ya ?_;refine a01 ?_;intro w5 hx5 hS5
 iterate 36 (rintro _ rfl)
 dsimp only [a0y];go_simp;have hx5 : Ext wr w5 := hx5;have HX5 := hid (HE.o.trans hx5);have HB5 := hid (HBR.o.ext hx5);clear hx5 hS5 c0 c1 c2 c3 c4 c5;obtain rfl : res = false := HV.o
 go_wp2
 go_ret
 exact ⟨rfl, HX5.o⟩
end Go.Proofs.YtdkejfjcchlnpaaGreat
namespace Go.Proofs.YtdkejfjcchlnpaaGreat
open Go.RowKit Go.Ox Go.Ox.Gr
theorem b3C (op kind fa a loop : Int) (u b : Value) (ins : List Int) (body : List Nd) (d at_ : Nat) (lb : Bool) (w : World) (hl : loop = -1 ∨ 0 <= loop) (hu : RE w u ins) (hb : a00 d w b body)
 (hli : op = 9 -> a0K op a loop = true -> ∀ W, Ext w W -> Calls Tryz.prog 85 #[b, .int .i64 (at_ : Int)] W fun e W' => e = .returned (.bool lb) ∧ Ext W W') :
 Calls Tryz.prog 51 #[a1e op kind fa a u b, .int .i64 (at_ : Int), .int .i64 loop] w fun e w' => e = .returned (.bool (a1D loop lb (.mk op ins kind fa a body) at_)) ∧ Ext w w' := by
 by_cases o1 : op < 1
 . exact b7q op kind fa a loop u b ins body d at_ lb w hl hu hb hli (.inl o1)
 by_cases o2 : 11 < op
 . exact b7q op kind fa a loop u b ins body d at_ lb w hl hu hb hli (.inr (.inl ⟨o1, o2⟩))
 by_cases k3 : (ins.length : Int) = arity op
 case neg => exact b7q op kind fa a loop u b ins body d at_ lb w hl hu hb hli (.inr (.inr ⟨o1, o2, k3⟩))
 have k1 : 1 <= op := by omega
 have k2 : op <= 11 := by omega
 by_cases kf : a2I op = 0
 case neg => exact rn_f op kind fa a loop u b ins body d at_ lb w hl hu hb hli k1 k2 k3 kf
 by_cases q1 : kind = 0
 case neg => exact rn_a op kind fa a loop u b ins body d at_ lb w hl hu hb hli k1 k2 k3 kf (.inl q1)
 by_cases q2 : fa = 0
 case neg => exact rn_a op kind fa a loop u b ins body d at_ lb w hl hu hb hli k1 k2 k3 kf (.inr (.inl ⟨q1, q2⟩))
 by_cases q3 : op = 9
 . exact rn_a op kind fa a loop u b ins body d at_ lb w hl hu hb hli k1 k2 k3 kf (.inr (.inr ⟨q1, q2, q3⟩))
 exact rn_p op kind fa a loop u b ins body d at_ lb w hl hu hb hli k1 k2 k3 kf q3 q1 q2
end Go.Proofs.YtdkejfjcchlnpaaGreat
namespace Go.Proofs.YtdkejfjcchlnpaaGreat
open Go.RowKit Go.Ox Go.Ox.Gr
attribute [local irreducible] RE a00
theorem b09 (loop : Int) (lb : Nd -> Nat -> Bool) (n : Nd) (i d : Nat) (u b : Value) (w : World) (hl : loop = -1 ∨ 0 <= loop) (hu : RE w u n.ins) (hb : a00 d w b n.body)
 (hli : n.op = 9 -> a2J n loop = true -> ∀ W, Ext w W -> Calls Tryz.prog 85 #[b, .int .i64 (i : Int)] W fun e W' => e = .returned (.bool (lb n i)) ∧ Ext W W') :
 Calls Tryz.prog 51 #[a1e n.op n.kind n.fa n.a u b, .int .i64 (i : Int), .int .i64 loop] w fun e w' => e = .returned (.bool (a1D loop (lb n i) n i)) ∧ Ext w w' := by
 cases n with
 | mk op ins kind fa a body => exact b3C op kind fa a loop u b ins body d i (lb (.mk op ins kind fa a body) i) w hl hu hb hli
theorem b7r {n : Nd} {loop : Nat} (h : n.op = 9) : a2J n (loop : Int) = true -> False := by
 unfold a2J;rw [if_neg (by omega), if_pos h, decide_eq_false (by omega), Bool.false_and]
 intro h; cases h
theorem b3D (loop : Nat) (d : Nat) (v : Value) (l : List Nd) (w : World) (hv : a00 d w v l) :
 Calls Tryz.prog 85 #[v, .int .i64 (loop : Int)] w fun e w' => e = .returned (.bool (a2k l loop)) ∧ Ext w w' := by
 obtain ⟨A, c, rfl⟩ := hv.form;have HV := hid hv;clear hv;unfold a2k
 by_cases h1 : 1 <= l.length
 . by_cases h2 : l.length <= 32
   . rw [decide_eq_true h1, decide_eq_true h2, Bool.true_and, Bool.true_and]
     have g1 : ¬ (l.length : Int) < 1 := by omega
     have g2 : ¬ (32 : Int) < (l.length : Int) := by omega
     have H2 := hid h2;clear h1 h2
     go_enter Tryz.func85, Tryz.ntmps85
     go_wp2
     go_loopw [5] (fun iv wr => ∃ k : Nat, k <= l.length ∧ iv = .int .i64 (k : Int) ∧ each (b3H loop) (l.take k) 0 = true ∧ Ext w wr) (fun iv _ => l.length - (intOf iv).toNat)
     case atStart => exact ⟨0, Nat.zero_le _, rfl, rfl, Ext.refl _⟩
     case round =>
     obtain ⟨k, hk, rfl, hp, hext⟩ := hrel;have HP := hid hp;have HE := hid hext;clear hp
     by_cases hlt : k < l.length
     . have q1 : (k : Int) < (l.length : Int) := by omega
       have q0 : 0 <= (k : Int) := by omega
       have q1n : k < l.length := hlt;have HLT := hid hlt;have hk32 : k <= 32 := by have := H2.o; omega
       obtain ⟨bA, oA, u, bv, rfl, c0, c1, c2, c3, c4, c5, hu, hbv⟩ := (HV.o.ext hext).at_ hlt;have HS := hid (a9u (b3H loop) l hlt);have HNO := hid (a8F (b3H loop) l hlt);have HC := b09 (loop : Int) (fun _ _ => false) l[k] k _ u bv wr (.inr (by omega)) hu hbv (fun h9 hn => (b7r h9 hn).elim)
       rw [a9x] at HC;have HC := hid HC;generalize b3H loop l[k] k = r at *;generalize l[k] = x at *;obtain ⟨op, ins, kind, fa, a, body⟩ := x;simp only [Nd.op, Nd.kind, Nd.fa, Nd.a, Nd.ins, Nd.body] at c0 c1 c2 c3 c4 c5 hu hbv HC;obtain ⟨Au, cu, rfl⟩ := hu.form;obtain ⟨Ab, cb, rfl⟩ := hbv.form;clear hext hlt hk hu hbv;rw [HP.o, Bool.true_and] at HS
       go_wp2_with fail
       refine HC.o.mono ?_;rintro e w2 ⟨rfl, he2⟩;have HX2 := hid (HE.o.trans he2);clear he2 c0 c1 c2 c3 c4 c5
       cases r with
       | true =>
        go_wp2
        exact ⟨⟨k + 1, HLT.o, by go_num, HS.o, HX2.o⟩, by have := HLT.o; simp [intOf]; omega⟩
       | false =>
       have HF := hid (HNO.o rfl)
       go_wp2
       go_ret
       exact ⟨by rw [HF.o]; rfl, HX2.o⟩
     obtain rfl : k = l.length := by omega
     have q1 : ¬ (l.length : Int) < (l.length : Int) := by omega
     rw [List.take_length] at HP;clear hext
     go_wp2
     go_ret
     exact ⟨by rw [HP.o]; rfl, HE.o⟩
   rw [decide_eq_false h2, Bool.false_and, Bool.and_false];have g1 : ¬ (l.length : Int) < 1 := by omega
   have g2 : (32 : Int) < (l.length : Int) := by omega
   clear h1 h2
   go_enter Tryz.func85, Tryz.ntmps85
   go_wp2
   go_ret
   exact ⟨rfl, Ext.refl _⟩
 rw [decide_eq_false h1, Bool.false_and];have g1 : (l.length : Int) < 1 := by omega
 clear h1
 go_enter Tryz.func85, Tryz.ntmps85
 go_wp2
 go_ret
 exact ⟨rfl, Ext.refl _⟩
theorem a4t (d : Nat) (v : Value) (l : List Nd) (out : Int) (w : World) (hv : a00 d w v l) :
 Calls Tryz.prog 20 #[gAg v out] w fun e w' => e = .returned (.bool (gOk (l, out))) ∧ Ext w w' := by
 obtain ⟨A, c, rfl⟩ := hv.form;have HX0 := hid ((Ext.refl w).alloc (gCs (.slice A l.length c) out));have HB0 := hid (Blk.new w 24 #[.slice A l.length c, .int .i64 out]);have HV := hid (hv.ext HX0.o);have HG := hid (show gOk (l, out) = ((decide (1 <= l.length) && (decide (l.length <= 32) && each a5i l 0)) && (decide (0 <= out) && (decide (out < (l.length : Int)) && decide (loops l <= 1)))) from rfl);generalize gOk (l, out) = R at *;clear hv
 go_enter Tryz.func20, Tryz.ntmps20
 go_upto_region 1 with fail
 generalize w.heap.size = p at *;generalize w.alloc (gCs (.slice A l.length c) out) = w0 at *;have c0 := HB0.o.c0;have c1 := HB0.o.c1
 by_cases h1 : 1 <= l.length
 case neg =>
  have HE := hid (show R = false by rw [HG.o, decide_eq_false h1]; rfl)
  have g1 : (l.length : Int) < 1 := by omega
  clear h1
  go_wp2
  go_ret
  exact ⟨by rw [HE.o]; rfl, HX0.o⟩
 by_cases h2 : l.length <= 32
 case neg =>
  have HE := hid (show R = false by rw [HG.o, decide_eq_false h2]; simp)
  have g1 : ¬ (l.length : Int) < 1 := by omega
  have g2 : (32 : Int) < (l.length : Int) := by omega
  clear h1 h2
  go_wp2
  go_ret
  exact ⟨by rw [HE.o]; rfl, HX0.o⟩
 by_cases h3 : 0 <= out
 case neg =>
  have HE := hid (show R = false by rw [HG.o, decide_eq_false h3]; simp)
  have g1 : ¬ (l.length : Int) < 1 := by omega
  have g2 : ¬ (32 : Int) < (l.length : Int) := by omega
  have g3 : out < 0 := by omega
  clear h1 h2 h3
  go_wp2
  go_ret
  exact ⟨by rw [HE.o]; rfl, HX0.o⟩
 by_cases h4 : out < (l.length : Int)
 case neg =>
  have HE := hid (show R = false by rw [HG.o, decide_eq_false h4]; simp)
  have g1 : ¬ (l.length : Int) < 1 := by omega
  have g2 : ¬ (32 : Int) < (l.length : Int) := by omega
  have g3 : ¬ out < 0 := by omega
  have g4 : (l.length : Int) <= out := by omega
  clear h1 h2 h3 h4
  go_wp2
  go_ret
  exact ⟨by rw [HE.o]; rfl, HX0.o⟩
 rw [decide_eq_true h1, decide_eq_true h2, decide_eq_true h3, decide_eq_true h4, Bool.true_and, Bool.true_and, Bool.true_and, Bool.true_and] at HG;have g1 : ¬ (l.length : Int) < 1 := by omega
 have g2 : ¬ (32 : Int) < (l.length : Int) := by omega
 have g3 : ¬ out < 0 := by omega
 have g4 : ¬ (l.length : Int) <= out := by omega
 have H2 := hid h2;clear h1 h2 h3 h4
 go_wp2
 clear c0 c1 g3 g4
 go_loopw [3, 4] (fun ov iv wr => ∃ k : Nat, k <= l.length ∧ iv = .int .i64 (k : Int) ∧ ov = .int .i64 (loops (l.take k) : Int) ∧ each a5i (l.take k) 0 = true ∧ Ext w0 wr) (fun _ iv _ => l.length - (intOf iv).toNat)
 case atStart => exact ⟨0, Nat.zero_le _, rfl, rfl, rfl, Ext.refl _⟩
 case round =>
 obtain ⟨k, hk, rfl, rfl, hp, hext⟩ := hrel;have HP := hid hp;have HE := hid hext;have hll := a9v l k;have hb := HB0.o.ext hext;have c0 := hb.c0;clear hp hb
 by_cases hlt : k < l.length
 . have q1 : (k : Int) < (l.length : Int) := by omega
   have q0 : 0 <= (k : Int) := by omega
   have q1n : k < l.length := hlt;have HLT := hid hlt;have hk32 : k <= 32 := by have := H2.o; omega
   obtain ⟨bA, oA, u, bv, rfl, e0, e1, e2, e3, e4, e5, hu, hbv⟩ := (HV.o.ext hext).at_ hlt;have HLS := hid (b1D l hlt);have HS := hid (a9u a5i l hlt);have HNO := hid (a8F a5i l hlt);have HC := b09 (-1) (fun n i => a2k n.body i) l[k] k _ u bv wr (.inl rfl) hu hbv (fun _ _ W he => b3D k _ bv l[k].body W (hbv.ext he))
   rw [b1M] at HC;have HC := hid HC;obtain ⟨n, hn⟩ : ∃ n, n = loops (l.take k) := ⟨_, rfl⟩;rw [<- hn] at HLS hll ⊢;generalize a5i l[k] k = r at *;generalize l[k] = x at *;obtain ⟨op, ins, kind, fa, a, body⟩ := x;simp only [Nd.op, Nd.kind, Nd.fa, Nd.a, Nd.ins, Nd.body] at e0 e1 e2 e3 e4 e5 hu hbv HC;replace HLS := hid (show loops (l.take (k + 1)) = n + (if op = 9 then 1 else 0) from HLS.o)
   obtain ⟨Au, cu, rfl⟩ := hu.form;obtain ⟨Ab, cb, rfl⟩ := hbv.form;clear hext hlt hk hu hbv hn;rw [HP.o, Bool.true_and] at HS
   go_wp2_with fail
   refine HC.o.mono ?_;rintro e w2 ⟨rfl, he2⟩;have HX2 := hid (HE.o.trans he2);have c0 := he2.cell c0;have e0 := he2.cell e0;clear he2 e1 e2 e3 e4 e5
   cases r with
   | true =>
    by_cases h9 : op = 9
    . rw [if_pos h9] at HLS
      subst h9
      go_wp2
      exact ⟨⟨k + 1, HLT.o, by go_num, by rw [HLS.o]; go_num, HS.o, HX2.o⟩, by have := HLT.o; simp [intOf]; omega⟩
    rw [if_neg h9] at HLS
    go_wp2
    exact ⟨⟨k + 1, HLT.o, by go_num, by rw [HLS.o]; rfl, HS.o, HX2.o⟩, by have := HLT.o; simp [intOf]; omega⟩
   | false =>
   have HF := hid (show R = false by rw [HG.o, HNO.o rfl]; rfl)
   go_wp2
   go_ret
   exact ⟨by rw [HF.o]; rfl, HX0.o.trans HX2.o⟩
 obtain rfl : k = l.length := by omega
 have q1 : ¬ (l.length : Int) < (l.length : Int) := by omega
 rw [List.take_length] at HP ⊢;rw [HP.o, Bool.true_and] at HG;clear hext hll;generalize loops l = n at *
 by_cases h1 : n <= 1
 . have HF := hid (show R = true by rw [HG.o, decide_eq_true h1])
   have q2 : (n : Int) <= 1 := by omega
   clear h1
   go_wp2
   go_ret
   exact ⟨by rw [HF.o]; rfl, HX0.o.trans HE.o⟩
 have HF := hid (show R = false by rw [HG.o, decide_eq_false h1])
 have q2 : ¬ (n : Int) <= 1 := by omega
 clear h1
 go_wp2
 go_ret
 exact ⟨by rw [HF.o]; rfl, HX0.o.trans HE.o⟩
end Go.Proofs.YtdkejfjcchlnpaaGreat
namespace Go.Ox.Fr
open Go.Ox.Gr Go.Ox.Pl Go.Proofs.YtdkejfjcchlnpaaGreat Go.Proofs.YtdkejfjcchlnpaaGreat.Mo
def b1j (g : G) (q : P2) (m : Mom.M) : Bool := gOk g && ((gNd g q).isSome && Mom.ok m)
theorem b0a {g : G} {q : P2} {m : Mom.M} : b1j g q m = true ↔ may g q = 0 ∧ Mom.ok m = true := by
 unfold b1j may
 cases gOk g <;> cases (gNd g q).isSome <;> cases Mom.ok m <;> simp
theorem due_eq (g : G) (L : List Cnt.S) (q : P2) (m : Mom.M) : due g L q m = (b1j g q m && !Mom.a0S (comes g L q (b1f true q m)) m) := by
 unfold due
 by_cases h : b1j g q m = true
 . rw [if_pos (b0a.1 h), h]; rfl
 rw [if_neg (fun e => h (b0a.2 e))]
 have : b1j g q m = false := by simpa using h
 rw [this]; rfl
end Go.Ox.Fr
namespace Go.Proofs.YtdkejfjcchlnpaaGreat
open Go.RowKit Go.Ox Go.Ox.Gr Mo Ct
attribute [local irreducible] RE OE a00
theorem b5d (d : Nat) (v : Value) (g : G) (q : Pl.P2) (m : Mom.M) (w : World) (hv : a00 d w v g.1) :
 Calls Tryz.prog 8 #[gAg v g.2, plV q, mV m] w fun e w' => e = .returned (.bool (Fr.b1j g q m)) ∧ Ext w w' := by
 have HCK := hid (fun W (h : Ext w W) => a4t d v g.1 g.2 W (hv.ext h))
 have HPC := hid (fun (hok : gOk g = true) W (h : Ext w W) => a4s d v g q W (hv.ext h) hok)
 have HCM := hid (fun W => Mo.a0w m W)
 have HMB := hid (show Fr.b1j g q m = (gOk g && ((gNd g q).isSome && Mom.ok m)) from rfl);obtain ⟨l, out⟩ := g;simp only at HCK hv;generalize Fr.b1j (l, out) q m = R at *;generalize (gNd (l, out) q).isSome = sq at *;generalize gOk (l, out) = ok at *;generalize Mom.ok m = om at *;obtain ⟨A, c, rfl⟩ := hv.form;obtain ⟨q1, q2⟩ := q;obtain ⟨m1, m2⟩ := m;have HX := hid (show Ext w (((w.alloc (.cells #[.slice A l.length c, .int .i64 out] 24)).alloc (.cells #[.int .i64 q1, .int .i64 q2] 27)).alloc (.cells #[.int .i64 m1, .int .i64 m2] 29)) from a0h [(#[.slice A l.length c, .int .i64 out], 24), (#[.int .i64 q1, .int .i64 q2], 27), (#[.int .i64 m1, .int .i64 m2], 29)] w);have HB0 := hid (show Blk (((w.alloc (.cells #[.slice A l.length c, .int .i64 out] 24)).alloc (.cells #[.int .i64 q1, .int .i64 q2] 27)).alloc (.cells #[.int .i64 m1, .int .i64 m2] 29)) (w.heap.size) 24 #[.slice A l.length c, .int .i64 out] from a08 [(#[.slice A l.length c, .int .i64 out], 24), (#[.int .i64 q1, .int .i64 q2], 27), (#[.int .i64 m1, .int .i64 m2], 29)] w 0 _ _ rfl);have HB1 := hid (show Blk (((w.alloc (.cells #[.slice A l.length c, .int .i64 out] 24)).alloc (.cells #[.int .i64 q1, .int .i64 q2] 27)).alloc (.cells #[.int .i64 m1, .int .i64 m2] 29)) (w.heap.size + 1) 27 #[.int .i64 q1, .int .i64 q2] from a08 [(#[.slice A l.length c, .int .i64 out], 24), (#[.int .i64 q1, .int .i64 q2], 27), (#[.int .i64 m1, .int .i64 m2], 29)] w 1 _ _ rfl);have HB2 := hid (show Blk (((w.alloc (.cells #[.slice A l.length c, .int .i64 out] 24)).alloc (.cells #[.int .i64 q1, .int .i64 q2] 27)).alloc (.cells #[.int .i64 m1, .int .i64 m2] 29)) (w.heap.size + 1 + 1) 29 #[.int .i64 m1, .int .i64 m2] from a08 [(#[.slice A l.length c, .int .i64 out], 24), (#[.int .i64 q1, .int .i64 q2], 27), (#[.int .i64 m1, .int .i64 m2], 29)] w 2 _ _ rfl);clear hv
 go_enter Tryz.func8, Tryz.ntmps8
 go_upto_region 1 with fail
 generalize w.heap.size = bn at *;generalize ((w.alloc (.cells #[.slice A l.length c, .int .i64 out] 24)).alloc (.cells #[.int .i64 q1, .int .i64 q2] 27)).alloc (.cells #[.int .i64 m1, .int .i64 m2] 29) = w0 at *;have c00 := HB0.o.c0;have c01 := HB0.o.c1;have c10 := HB1.o.c0;have c11 := HB1.o.c1;have c20 := HB2.o.c0;have c21 := HB2.o.c1
 go_wp2_with fail
 refine (HCK.o w0 HX.o).mono ?_;rintro e w1 ⟨rfl, he⟩;clear c00 c01 c10 c11 c20 c21;have HX := hid (HX.o.trans he);have HB0 := hid (HB0.o.ext he);have HB1 := hid (HB1.o.ext he);have HB2 := hid (HB2.o.ext he);clear he
 cases ok with
 | false =>
  have HR := hid (show R = false from HMB.o)
  go_wp2
  go_ret
  exact ⟨by rw [HR.o]; rfl, HX.o⟩
 | true =>
 have c00 := HB0.o.c0;have c01 := HB0.o.c1;have c10 := HB1.o.c0;have c11 := HB1.o.c1;have c20 := HB2.o.c0;have c21 := HB2.o.c1
 go_wp2_with fail
 refine (HPC.o (by first | rfl | trivial) w1 HX.o).mono ?_
 rintro e w2 ⟨rfl, he⟩;clear c00 c01 c10 c11 c20 c21;have HX := hid (HX.o.trans he);have HB0 := hid (HB0.o.ext he);have HB1 := hid (HB1.o.ext he);have HB2 := hid (HB2.o.ext he);clear he
 cases sq with
 | false =>
  have HR := hid (show R = false from HMB.o)
  go_wp2
  go_ret
  exact ⟨by rw [HR.o]; rfl, HX.o⟩
 | true =>
 have c00 := HB0.o.c0;have c01 := HB0.o.c1;have c10 := HB1.o.c0;have c11 := HB1.o.c1;have c20 := HB2.o.c0;have c21 := HB2.o.c1
 go_wp2_with fail
 refine (HCM.o w2).mono ?_;rintro e w3 ⟨rfl, he⟩;clear c00 c01 c10 c11 c20 c21;have HX := hid (HX.o.trans he);have HB0 := hid (HB0.o.ext he);have HB1 := hid (HB1.o.ext he);have HB2 := hid (HB2.o.ext he);clear he;have HR := hid (show R = om from HMB.o)
 go_wp2
 go_ret
 exact ⟨by rw [HR.o]; rfl, HX.o⟩
theorem b5e (d : Nat) (v : Value) (g : G) (u : Value) (L : List Cnt.S) (q : Pl.P2) (m : Mom.M) (w : World) (hv : a00 d w v g.1) (hn : (gPl g).length <= 20) (hu : RE w u L) (hl : L.length <= 1000000) :
 Calls Tryz.prog 19 #[gAg v g.2, u, plV q, mV m] w fun e w' => e = .returned (.bool (Fr.due g L q m)) ∧ Ext w w' := by
 have HMY := hid (fun W (h : Ext w W) => b5d d v g q m W (hv.ext h))
 have HCO := hid (fun (hb : Fr.b1j g q m = true) W (h : Ext w W) => b1g d v g u L q true m W (hv.ext h) (by unfold Fr.b1j at hb; simp at hb; exact hb.1) hn (by unfold Fr.b1j at hb; simp at hb; exact hb.2.1) (hu.ext h) hl)
 have HCV := hid (fun x W (h : RP W x (Fr.comes g L q (Fr.b1f true q m))) => Mo.a9g x (Fr.comes g L q (Fr.b1f true q m)) m W h (by have := Fr.a3X g L q (Fr.b1f true q m); omega))
 have HDF := hid (Fr.due_eq g L q m);obtain ⟨l, out⟩ := g;simp only at hv;generalize Fr.due (l, out) L q m = R at *;generalize Fr.comes (l, out) L q (Fr.b1f true q m) = CL at *;generalize Fr.b1j (l, out) q m = MB at *;generalize Mom.a0S CL m = CV at *;obtain ⟨A, c, rfl⟩ := hv.form;obtain ⟨q1, q2⟩ := q;obtain ⟨m1, m2⟩ := m;have HX := hid (show Ext w (((w.alloc (.cells #[.slice A l.length c, .int .i64 out] 24)).alloc (.cells #[.int .i64 q1, .int .i64 q2] 27)).alloc (.cells #[.int .i64 m1, .int .i64 m2] 29)) from a0h [(#[.slice A l.length c, .int .i64 out], 24), (#[.int .i64 q1, .int .i64 q2], 27), (#[.int .i64 m1, .int .i64 m2], 29)] w);have HB0 := hid (show Blk (((w.alloc (.cells #[.slice A l.length c, .int .i64 out] 24)).alloc (.cells #[.int .i64 q1, .int .i64 q2] 27)).alloc (.cells #[.int .i64 m1, .int .i64 m2] 29)) (w.heap.size) 24 #[.slice A l.length c, .int .i64 out] from a08 [(#[.slice A l.length c, .int .i64 out], 24), (#[.int .i64 q1, .int .i64 q2], 27), (#[.int .i64 m1, .int .i64 m2], 29)] w 0 _ _ rfl);have HB1 := hid (show Blk (((w.alloc (.cells #[.slice A l.length c, .int .i64 out] 24)).alloc (.cells #[.int .i64 q1, .int .i64 q2] 27)).alloc (.cells #[.int .i64 m1, .int .i64 m2] 29)) (w.heap.size + 1) 27 #[.int .i64 q1, .int .i64 q2] from a08 [(#[.slice A l.length c, .int .i64 out], 24), (#[.int .i64 q1, .int .i64 q2], 27), (#[.int .i64 m1, .int .i64 m2], 29)] w 1 _ _ rfl);have HB2 := hid (show Blk (((w.alloc (.cells #[.slice A l.length c, .int .i64 out] 24)).alloc (.cells #[.int .i64 q1, .int .i64 q2] 27)).alloc (.cells #[.int .i64 m1, .int .i64 m2] 29)) (w.heap.size + 1 + 1) 29 #[.int .i64 m1, .int .i64 m2] from a08 [(#[.slice A l.length c, .int .i64 out], 24), (#[.int .i64 q1, .int .i64 q2], 27), (#[.int .i64 m1, .int .i64 m2], 29)] w 2 _ _ rfl);clear hv hn hl hu
 go_enter Tryz.func19, Tryz.ntmps19
 go_upto_region 1 with fail
 generalize w.heap.size = bn at *;generalize ((w.alloc (.cells #[.slice A l.length c, .int .i64 out] 24)).alloc (.cells #[.int .i64 q1, .int .i64 q2] 27)).alloc (.cells #[.int .i64 m1, .int .i64 m2] 29) = w0 at *;have c00 := HB0.o.c0;have c01 := HB0.o.c1;have c10 := HB1.o.c0;have c11 := HB1.o.c1;have c20 := HB2.o.c0;have c21 := HB2.o.c1;have HM9 := hid (fun W (h : Ext w0 W) => HMY.o W (HX.o.trans h))
 cases MB with
 | false =>
  have HR := hid (show R = false from HDF.o);refine yx ?_;refine yl2 c00 c01 ?_;refine yl2 c10 c11 ?_;refine yl2 c20 c21 ?_;refine yc3 (.bool false) (fun w' hR => HM9.o w' hR) ?_
  refine ya1 ?_
  iterate 8 (refine a6H rfl rfl (by first | exact .inl rfl | exact .inr rfl) ?_)
  refine ya1 ?_;refine yl0 ?_;refine a01 ?_;intro wz hz hS
  iterate 7 (rintro _ rfl)
  dsimp only [a0y];go_simp;have hz : Ext w0 wz := hz
  go_wp2
  go_ret
  exact ⟨by rw [HR.o]; rfl, HX.o.trans hz⟩
 | true =>
 have HC9 := hid (fun W (h : Ext w0 W) => HCO.o rfl W (HX.o.trans h))
 have HR := hid (show R = !CV from HDF.o);refine yx ?_;refine yl2 c00 c01 ?_;refine yl2 c10 c11 ?_;refine yl2 c20 c21 ?_;refine yc3 (.bool true) (fun w' hR => HM9.o w' hR) ?_
 refine ya1 ?_;refine yl2 c00 c01 ?_;refine ya1 ?_;refine yl2 c10 c11 ?_;refine yl2 c20 c21 ?_;refine a09 (fun v w2 => RE w2 v CL) rfl rfl (a03 rfl) rfl (by first | exact (fun _ _ _ h k => RE.ext h k) | exact (fun _ _ _ h k => RE.extD h k)) ?_ ?_
 . intro a w' hR h1 h2 h3 h4 K hK
   have e1 : _ = _ := h1;have e2 : _ = _ := h2;have e3 : _ = _ := h3;have e4 : _ = _ := h4;go_simp;refine (HC9.o w' hR).mono ?_;rintro e w2 ⟨v9, rfl, ho9, he⟩;exact hK _ _ he ho9.re
 refine yl2 c20 c21 ?_;refine a09 (fun v _ => v = .bool CV) rfl rfl (a03 rfl) rfl (by exact a0g) ?_ ?_
 . intro a w' hR h1 h2 K hK
   obtain ⟨x, ex, fx⟩ : ∃ x, a.tmps.getD 18 undef = x ∧ (fun v w2 => RE w2 v CL) x w' := ⟨_, rfl, h1⟩
   have e2 : _ = _ := h2;go_simp;refine (HCV.o x w' (RE.rp fx)).mono ?_;rintro e w2 ⟨rfl, he⟩;exact hK _ _ he rfl
 refine yl0 ?_;refine ya1 ?_;refine yl0 ?_;refine a01 ?_;intro wz hz hS
 iterate 9 (rintro _ rfl)
 iterate 1 (intro _ hz; clear hz)
 iterate 5 (rintro _ rfl)
 dsimp only [a0y];go_simp;have hz : Ext w0 wz := hz
 go_wp2
 go_ret
 exact ⟨by rw [HR.o]; rfl, HX.o.trans hz⟩
end Go.Proofs.YtdkejfjcchlnpaaGreat
namespace Go.Ox.Fr
open Go.Ox.Gr Go.Ox.Pl
def a4N (g : G) (m : Nat) : Bool := (a2m 4 g.1 || decide (16 < (a0a g.1).length)) || decide (20 < m)
theorem b5f {g : G} {m : Nat} (h : a4N g m = false) : Pl.a4N g = false ∧ m <= 20 := by
 unfold a4N at h;rw [Bool.or_eq_false_iff, Bool.or_eq_false_iff, decide_eq_false_iff_not, decide_eq_false_iff_not] at h;refine ⟨?_, by omega⟩
 show (a2m 4 g.1 || decide (20 < (a0a g.1).length)) = false;rw [h.1.1, decide_eq_false (by omega)]
 rfl
end Go.Ox.Fr
namespace Go.Proofs.YtdkejfjcchlnpaaGreat
open Go.RowKit Go.Ox Go.Ox.Gr Mo Ct
attribute [local irreducible] RE OE a00
theorem a5M (d : Nat) (v : Value) (g : G) (B : Option Addr) (m k : Nat) (w : World) (hv : a00 d w v g.1) :
 Calls Tryz.prog 7 #[gAg v g.2, .slice B m k] w fun e w' => e = .returned (.bool (Fr.a4N g m)) ∧ Ext w w' := by
 obtain ⟨l, out⟩ := g;have HD := hid (fun W (h : Ext w W) => b4w 4 0 d v l W (by omega) (by omega) (hv.ext h))
 have HPL := hid (fun (h : a2m 4 l = false) W (hW : Ext w W) => a0X d v l out W (hv.ext hW) (by have := (a8U h).1; omega) (fun n hn => by have := b2m h hn; omega))
 have HLG := hid (show Fr.a4N (l, out) m = ((a2m 4 l || decide (16 < (a0a l).length)) || decide (20 < m)) from rfl);simp only at hv;generalize Fr.a4N (l, out) m = LG at *;generalize a0a l = pls at *;obtain ⟨A, c, rfl⟩ := hv.form;have HX0 := hid ((Ext.refl w).alloc (gCs (.slice A l.length c) out));have HB0 := hid (Blk.new w 24 #[.slice A l.length c, .int .i64 out]);clear hv
 go_enter Tryz.func7, Tryz.ntmps7
 go_upto_region 1 with fail
 generalize w.heap.size = p at *;generalize w.alloc (gCs (.slice A l.length c) out) = w0 at *;have c0 := HB0.o.c0;have c1 := HB0.o.c1;obtain ⟨db, hdb⟩ : ∃ db, a2m 4 l = db := ⟨_, rfl⟩;rw [hdb] at HD HPL HLG
 cases db with
 | true =>
  go_wp2_with fail
  refine (HD.o w0 HX0.o).mono ?_;rintro e w' ⟨rfl, rfl⟩
  go_wp2
  go_ret
  exact ⟨by rw [HLG.o]; rfl, HX0.o⟩
 | false =>
 go_wp2_with fail
 refine (HD.o w0 HX0.o).mono ?_;rintro e w' ⟨rfl, rfl⟩
 go_wp2_with fail
 refine (HPL.o (by trivial) w0 HX0.o).mono ?_
 rintro e w1 ⟨u, rfl, hu, he⟩;obtain ⟨A1, k1, rfl⟩ := hu.re.form;have HX1 := hid (HX0.o.trans he);clear hu he c0 c1
 by_cases h20 : 16 < pls.length
 . have g2 : (16 : Int) < (pls.length : Int) := by omega
   have HR := hid (show LG = true from by rw [HLG.o, decide_eq_true h20]; rfl)
   clear h20
   go_wp2
   go_ret
   exact ⟨by rw [HR.o]; first | rfl | (simp; omega), HX1.o⟩
 have g2 : ¬ (16 : Int) < (pls.length : Int) := by omega
 by_cases h21 : 20 < m
 . have g3 : (20 : Int) < (m : Int) := by omega
   have HR := hid (show LG = true from by rw [HLG.o, decide_eq_true h21]; simp)
   clear h20 h21
   go_wp2
   go_ret
   exact ⟨by rw [HR.o]; first | rfl | (simp; omega), HX1.o⟩
 have g3 : ¬ (20 : Int) < (m : Int) := by omega
 have HR := hid (show LG = false from by rw [HLG.o, decide_eq_false h20, decide_eq_false h21]; rfl)
 clear h20 h21
 go_wp2
 go_ret
 exact ⟨by rw [HR.o]; first | rfl | (simp; omega), HX1.o⟩
end Go.Proofs.YtdkejfjcchlnpaaGreat
namespace Go.Proofs.YtdkejfjcchlnpaaGreat
open Go.RowKit Go.Ox Go.Ox.Gr Go.ChangeShapes Go.WideShapes
section
variable {H : Type} {enc : TypeId × Value -> H} {W : World} {base : Nat} {sp : Nat -> Bool} {held : Bool} {v u : Value} {d : DataW H} {p : List MemPlace} {r : Reach} {b0 N : Nat}
theorem b3E {R : TypeId -> Value -> Prop} : ∀ (rows : List (List Value)), (∀ x ∈ rows, a7l R [.int .i64] x) -> ∃ l : List Int, rows.length = l.length ∧ rows.flatten = eV l
 | [], _ => ⟨[], rfl, rfl⟩
 | r :: rows, h => by
  obtain ⟨l, h1, h2⟩ := b3E rows fun x hx => h x (List.mem_cons_of_mem _ hx)
  obtain ⟨n, cs, rfl, _, hr⟩ := a3c (h r (List.mem_cons_self ..));obtain rfl := a6R hr;exact ⟨n :: l, by simp [h1], by rw [List.flatten_cons, h2]; rfl⟩
theorem a9i (h : Was enc Tryz.prog W base sp held N 97 u) : ∃ l : List Int, RE W u l := by
 obtain ⟨rows, hr, -, hx⟩ := Was.rows (n := 8) (ks := [.int .i64]) Tryz.underlying97 (by kernel_rfl) (by kernel_rfl) (by decide) h
 obtain ⟨l, h1, h2⟩ := b3E rows hx;rw [h1, h2] at hr;exact ⟨l, RE.mk hr⟩
theorem a8r : ∀ (N : Nat) (u : Value), Was enc Tryz.prog W base sp held N 22 u -> ∃ l : List Nd, a00 N W u l := by
 intro N
 induction N with
 | zero =>
  intro u h;obtain ⟨rows, hr, h0, hx⟩ := Was.rows (n := 8) (ks := [.int .i64, .cell 97, .int .i64, .int .i64, .int .i64, .cell 22]) Tryz.underlying22 (by kernel_rfl) (by kernel_rfl) (by decide) h
  obtain rfl : rows = [] := h0.elim id fun h => absurd h (Nat.lt_irrefl _)
  exact ⟨[], ⟨[], hr, rfl, fun i r x hr => by simp at hr⟩⟩
 | succ N ih =>
 intro u h;obtain ⟨rows, hr, h0, hx⟩ := Was.rows (n := 8) (ks := [.int .i64, .cell 97, .int .i64, .int .i64, .int .i64, .cell 22]) Tryz.underlying22 (by kernel_rfl) (by kernel_rfl) (by decide) h
 have each : ∀ r ∈ rows, r.length = 6 ∧ ∃ x : Nd, NdQ (a00 N) W r x := fun r hr2 => by
  have hr := hx r hr2;refine ⟨a6Q hr, ?_⟩;obtain ⟨op, cs, rfl, _, hr⟩ := a3c hr;obtain ⟨u1, cs, rfl, hu1, hr⟩ := a5g hr;obtain ⟨kind, cs, rfl, _, hr⟩ := a3c hr;obtain ⟨fa, cs, rfl, _, hr⟩ := a3c hr;obtain ⟨a, cs, rfl, _, hr⟩ := a3c hr;obtain ⟨u2, cs, rfl, hu2, hr⟩ := a5g hr;obtain rfl := a6R hr;obtain ⟨ins, hins⟩ := a9i hu1;obtain ⟨body, hbody⟩ := ih _ hu2;exact ⟨.mk op ins kind fa a body, u1, u2, rfl, hins, hbody⟩
 obtain ⟨l, hl⟩ := RS.b5U hr each;exact ⟨l, a00.b0s hl⟩
abbrev GArg := (Value × Nat) × G
theorem b5g (hv : Value.okWide Tryz.prog W r b0 24 v) (h : DataW.Trod enc Tryz.prog W base sp held 24 v d p) :
 ∃ x : GArg, v = gAg x.1.1 x.2.2 ∧ a00 x.1.2 W x.1.1 x.2.1 := by
 obtain ⟨cs, N, rfl, hr⟩ := a5h (n := 8) (ks := [.cell 22, .int .i64]) (by kernel_rfl) Tryz.underlying24 hv h
 obtain ⟨u, cs, rfl, hu, hr⟩ := a5g hr;obtain ⟨out, cs, rfl, _, hr⟩ := a3c hr;obtain rfl := a6R hr;obtain ⟨l, hl⟩ := a8r N u hu;exact ⟨((u, N), l, out), rfl, hl⟩
end
end Go.Proofs.YtdkejfjcchlnpaaGreat
