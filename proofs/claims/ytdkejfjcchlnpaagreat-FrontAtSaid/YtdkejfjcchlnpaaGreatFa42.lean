/-
  GrRefB, GrRefC, packed: what the claim needs of them.
-/
import Derived.Test.YtdkejfjcchlnpaaGreatFa41
set_option maxHeartbeats 40000000
open Go.Lib (hid)
set_option linter.unusedSimpArgs false
set_option linter.unusedVariables false
set_option maxRecDepth 100000
namespace Go.Proofs.YtdkejfjcchlnpaaGreat
open Go.RowKit Go.Ox Go.Ox.Gr
attribute [local irreducible] RE a00
theorem rn_p (op kind fa a loop : Int) (u b : Value) (ins : List Int) (body : List Nd) (d at_ : Nat) (lb : Bool) (w : World) (hl : loop = -1 ∨ 0 ≤ loop) (hu : RE w u ins) (hb : a00 d w b body)
 (hli : op = 9 → a0M op a loop = true → ∀ W, Ext w W → Calls Tryz.prog 85 #[b, .int .i64 (at_ : Int)] W fun e W' => e = .returned (.bool lb) ∧ Ext W W')
 (k1 : 1 ≤ op) (k2 : op ≤ 11) (k3 : (ins.length : Int) = arity op) (kf : a2J op = 0) (k9 : ¬ op = 9) (hk0 : kind = 0) (hf0 : fa = 0) :
 Calls Tryz.prog 51 #[a1e op kind fa a u b, .int .i64 (at_ : Int), .int .i64 loop] w fun e w' => e = .returned (.bool (a1D loop lb (.mk op ins kind fa a body) at_)) ∧ Ext w w' := by
 have HR := hid (show a1D loop lb (.mk op ins kind fa a body) at_ = ((a5Q op && (decide ((ins.length : Int) = arity op) && a2h ins at_)) && (fnB (a2J op) kind fa && (a0M op a loop && (if op = 9 then lb else body.isEmpty)))) from by
  unfold a1D base
  rw [a7L, a5j]; rfl)
 generalize a1D loop lb (.mk op ins kind fa a body) at_ = res at *;have HAR := hid (fun w => a3i op w)
 have HX0 := hid ((Ext.refl w).alloc (a0o op kind fa a u b));have HB0 := hid (Bx6.new w 101 (.int .i64 op) u (.int .i64 kind) (.int .i64 fa) (.int .i64 a) b);have HU := hid (hu.ext HX0.o);obtain ⟨Au, cu, rfl⟩ := hu.form;obtain ⟨Ab, cb, rfl⟩ := hb.form;have HFA := hid (fun w => a3v op w)
 have HFV := hid (fun w => a5P kind fa w)
 have HLI := hid hli;have HIL := hid (show ins.length ≤ 1000000 by have := a1P op; omega)
 have HBE := hid (show body.isEmpty = decide (body.length = 0) from by cases body <;> simp)
 replace HR := hid (show res = (a2h ins at_ && (fnB (a2J op) kind fa && (a0M op a loop && (if op = 9 then lb else body.isEmpty)))) from by
  rw [HR.o, decide_eq_true k3, show a5Q op = true by unfold a5Q; rw [decide_eq_true k1, decide_eq_true k2]; rfl, Bool.true_and, Bool.true_and])
 have o1 : ¬ op < 1 := by omega
 have o2 : ¬ 11 < op := by omega
 have hbn : ((ins.length : Int) != arity op) = false := by simpa using k3
 rw [kf] at HFA;have HFN := hid (show fnB (a2J op) kind fa = true from by unfold fnB; rw [if_pos kf, hk0, hf0]; rfl)
 subst hk0;subst hf0;clear kf;have hb9 : (op != 9) = true := by simpa using k9
 clear hu hb hli k1 k2 k3;generalize body.isEmpty = be at *;generalize body.length = bl at *;generalize arity op = ar at *;generalize fnB (a2J op) 0 0 = fB at *
 go_enter Tryz.func51, Tryz.ntmps51
 go_upto_region 1 with fail
 generalize w.heap.size = p at *;generalize w.alloc (a0o op 0 0 a (.slice Au ins.length cu) (.slice Ab bl cb)) = w0 at *;obtain ⟨c0, c1, c2, c3, c4, c5⟩ := HB0.o.at_;refine yx ?_;refine ya ?_;refine yl1 c0 ?_;refine ya ?_;refine yl1 c0 ?_;refine ya ?_;refine yl1 c1 ?_;refine ya ?_;refine yl1 c0 ?_;refine yd1 (.int .i64 ar) (fun w' _ => HAR.o w') ?_
 refine ya ?_;refine a02 ?_;intro w1 hx1 hS1
 iterate 17 (rintro _ rfl)
 dsimp only [a0w];go_simp;have hx1 : Ext w0 w1 := hx1;have HX1 := hid (HX0.o.trans hx1);have HB1 := hid (HB0.o.ext hx1);have HU1 := hid (HU.o.ext hx1);clear hx1 hS1 c0 c1 c2 c3 c4 c5 HU HB0 HAR hbn
 go_wp2
 go_loopw [7] (fun iv wr => ∃ k : Nat, k ≤ ins.length ∧ iv = .int .i64 (k : Int) ∧ a2h (ins.take k) at_ = true ∧ Ext w1 wr) (fun iv _ => ins.length - (intOf iv).toNat)
 case atStart => exact ⟨0, Nat.zero_le _, rfl, rfl, Ext.refl _⟩
 case round =>
 obtain ⟨k, hk, rfl, hp, hext⟩ := hrel;have HP := hid hp;have HE := hid (HX1.o.trans hext);have HEX := hid hext;have HBR := hid (HB1.o.ext hext);obtain ⟨c0, c1, c2, c3, c4, c5⟩ := HBR.o.at_;clear hp
 by_cases hlt : k < ins.length
 · have q1 : (k : Int) < (ins.length : Int) := by omega
   have q0 : 0 ≤ (k : Int) := by omega
   have q1n : k < ins.length := hlt;have HLT := hid hlt;have hkb : k ≤ 1000000 := by have := HIL.o; omega
   obtain ⟨bA, oA, rfl, y0⟩ := ri1 (HU1.o.ext hext) hlt;have HS := hid (a9m ins at_ hlt);rw [HP.o, Bool.true_and] at HS;have HBAD := hid (fun (hx : ¬ (0 ≤ ins[k] ∧ ins[k] < (at_ : Int))) => show res = false from by rw [HR.o, a7k ins at_ hlt hx, Bool.false_and])
   generalize ins[k] = x at *;clear hext hlt hk
   by_cases x0 : x < 0
   · obtain rfl : res = false := HBAD.o (by omega)
     go_wp2
     go_ret
     exact ⟨rfl, HE.o⟩
   by_cases x1 : (at_ : Int) ≤ x
   · obtain rfl : res = false := HBAD.o (by omega)
     go_wp2
     go_ret
     exact ⟨rfl, HE.o⟩
   have HA := hid (show ahB x at_ = true by unfold ahB; rw [decide_eq_true (show 0 ≤ x by omega), decide_eq_true (show x < (at_ : Int) by omega)]; rfl)
   go_wp2
   exact ⟨⟨k + 1, HLT.o, by go_num, by rw [HS.o, HA.o], HEX.o⟩, by have := HLT.o; simp [intOf]; omega⟩
 obtain rfl : k = ins.length := by omega
 have q1 : ¬ (ins.length : Int) < (ins.length : Int) := by omega
 rw [List.take_length] at HP;replace HR := hid (show res = (fB && (a0M op a loop && (if op = 9 then lb else be))) from by rw [HR.o, HP.o, Bool.true_and])
 clear hext hk hlt HP HEX HU1 HB1 HX1 HIL
 go_upto_region 8 with fail
 by_cases kb : bl = 0
 · replace HR := hid (show res = a0M op a loop from by rw [HR.o, HFN.o, if_neg k9, HBE.o, decide_eq_true kb, Bool.and_true]; rfl)
   have hb0 : ¬ (0 : Int) < (bl : Int) := by omega
   clear kb;refine yx ?_;refine ya ?_;refine yl1 c0 ?_;refine yd1 (.int .i64 0) (fun w' _ => HFA.o w') ?_
   refine ya ?_;refine yl1 c0 ?_;refine yd1 (.int .i64 0) (fun w' _ => HFA.o w') ?_
   refine ya ?_;refine yl2 c2 c3 ?_;refine ya ?_;refine ya ?_;refine ya ?_;refine yl1 c0 ?_;refine ya ?_;refine yl1 c5 ?_;refine ya ?_;refine a02 ?_;intro w5 hx5 hS5
   iterate 36 (rintro _ rfl)
   dsimp only [a0w];go_simp;have hx5 : Ext wr w5 := hx5;have HX5 := hid (HE.o.trans hx5);have HB5 := hid (HBR.o.ext hx5);clear hx5 hS5 c0 c1 c2 c3 c4 c5;obtain ⟨c0, c1, c2, c3, c4, c5⟩ := HB5.o.at_;clear HFA HFV HBR HE HFN HBE
   by_cases n1 : op = 1
   · subst n1
     rcases hl with rfl | hl
     · by_cases h0 : 0 ≤ a
       · by_cases h1 : a < 4
         · obtain rfl : res = true := by rw [HR.o]; unfold a0M; simp <;> omega
           go_wp2_with fail
           go_ret
           exact ⟨by first | rfl | (show Ending.returned (.bool (decide (a < 4))) = .returned (.bool true); rw [decide_eq_true (by omega)]), HX5.o⟩
         obtain rfl : res = false := by rw [HR.o]; unfold a0M; simp <;> omega
         go_wp2_with fail
         go_ret
         exact ⟨by first | rfl | (show Ending.returned (.bool (decide (a < 4))) = .returned (.bool false); rw [decide_eq_false (by omega)]), HX5.o⟩
       obtain rfl : res = false := by rw [HR.o]; unfold a0M; simp <;> omega
       go_wp2_with fail
       go_ret
       exact ⟨rfl, HX5.o⟩
     obtain rfl : res = false := by rw [HR.o]; unfold a0M; simp <;> omega
     have hln : ¬ loop < 0 := by omega
     go_wp2_with fail
     go_ret
     exact ⟨rfl, HX5.o⟩
   by_cases n10 : op = 10
   · subst n10
     rcases hl with rfl | hl
     · obtain rfl : res = false := by rw [HR.o]; unfold a0M; simp <;> omega
       go_wp2_with fail
       go_ret
       exact ⟨rfl, HX5.o⟩
     by_cases h0 : a = 0
     · subst h0
       obtain rfl : res = true := by rw [HR.o]; unfold a0M; simp <;> omega
       go_wp2_with fail
       go_ret
       exact ⟨rfl, HX5.o⟩
     obtain rfl : res = false := by rw [HR.o]; unfold a0M; simp <;> omega
     have hb : (a == 0) = false := by simpa using h0
     go_wp2_with fail
     go_ret
     exact ⟨rfl, HX5.o⟩
   by_cases n11 : op = 11
   · subst n11
     rcases hl with rfl | hl
     · obtain rfl : res = false := by rw [HR.o]; unfold a0M; simp <;> omega
       go_wp2_with fail
       go_ret
       exact ⟨rfl, HX5.o⟩
     by_cases h0 : 0 ≤ a
     · by_cases h1 : a < loop
       · obtain rfl : res = true := by rw [HR.o]; unfold a0M; simp <;> omega
         go_wp2_with fail
         go_ret
         exact ⟨by first | rfl | (show Ending.returned (.bool (decide (a < loop))) = .returned (.bool true); rw [decide_eq_true (by omega)]), HX5.o⟩
       obtain rfl : res = false := by rw [HR.o]; unfold a0M; simp <;> omega
       go_wp2_with fail
       go_ret
       exact ⟨by first | rfl | (show Ending.returned (.bool (decide (a < loop))) = .returned (.bool false); rw [decide_eq_false (by omega)]), HX5.o⟩
     obtain rfl : res = false := by rw [HR.o]; unfold a0M; simp <;> omega
     go_wp2_with fail
     go_ret
     exact ⟨rfl, HX5.o⟩
   have hn : a0M op a loop = decide (a = 0) := by unfold a0M; rw [if_neg n1, if_neg k9, if_neg n10, if_neg n11]
   rw [hn] at HR;have m1 : (op == 1) = false := by simpa using n1
   have m9 : (op == 9) = false := by simpa using k9
   have m10 : (op == 10) = false := by simpa using n10
   have m11 : (op == 11) = false := by simpa using n11
   clear n1 k9 n10 n11 hn
   by_cases h0 : a = 0
   · subst h0
     obtain rfl : res = true := by rw [HR.o]; rfl
     go_wp2_with fail
     go_ret
     exact ⟨rfl, HX5.o⟩
   obtain rfl : res = false := by rw [HR.o]; exact decide_eq_false h0
   have hb : (a == 0) = false := by simpa using h0
   go_wp2_with fail
   go_ret
   exact ⟨rfl, HX5.o⟩
 have HV := hid (show res = false from by rw [HR.o, if_neg k9, HBE.o, decide_eq_false kb, Bool.and_false, Bool.and_false])
 have hb0 : (0 : Int) < (bl : Int) := by omega
 clear kb;refine yx ?_;refine ya ?_;refine yl1 c0 ?_;refine yd1 (.int .i64 0) (fun w' _ => HFA.o w') ?_
 refine ya ?_;refine yl1 c0 ?_;refine yd1 (.int .i64 0) (fun w' _ => HFA.o w') ?_
 refine ya ?_;refine yl2 c2 c3 ?_;refine ya ?_;refine ya ?_;refine ya ?_;refine yl1 c0 ?_;refine ya ?_;refine yl1 c5 ?_;refine ya ?_;refine a02 ?_;intro w5 hx5 hS5
 iterate 36 (rintro _ rfl)
 dsimp only [a0w];go_simp;have hx5 : Ext wr w5 := hx5;have HX5 := hid (HE.o.trans hx5);have HB5 := hid (HBR.o.ext hx5);clear hx5 hS5 c0 c1 c2 c3 c4 c5;obtain rfl : res = false := HV.o
 go_wp2
 go_ret
 exact ⟨rfl, HX5.o⟩
end Go.Proofs.YtdkejfjcchlnpaaGreat
namespace Go.Proofs.YtdkejfjcchlnpaaGreat
open Go.RowKit Go.Ox Go.Ox.Gr
attribute [local irreducible] RE a00
theorem rn_f (op kind fa a loop : Int) (u b : Value) (ins : List Int) (body : List Nd) (d at_ : Nat) (lb : Bool) (w : World) (hl : loop = -1 ∨ 0 ≤ loop) (hu : RE w u ins) (hb : a00 d w b body)
 (hli : op = 9 → a0M op a loop = true → ∀ W, Ext w W → Calls Tryz.prog 85 #[b, .int .i64 (at_ : Int)] W fun e W' => e = .returned (.bool lb) ∧ Ext W W')
 (k1 : 1 ≤ op) (k2 : op ≤ 11) (k3 : (ins.length : Int) = arity op) (kf : ¬ a2J op = 0) :
 Calls Tryz.prog 51 #[a1e op kind fa a u b, .int .i64 (at_ : Int), .int .i64 loop] w fun e w' => e = .returned (.bool (a1D loop lb (.mk op ins kind fa a body) at_)) ∧ Ext w w' := by
 have HR := hid (show a1D loop lb (.mk op ins kind fa a body) at_ = ((a5Q op && (decide ((ins.length : Int) = arity op) && a2h ins at_)) && (fnB (a2J op) kind fa && (a0M op a loop && (if op = 9 then lb else body.isEmpty)))) from by
  unfold a1D base
  rw [a7L, a5j]; rfl)
 generalize a1D loop lb (.mk op ins kind fa a body) at_ = res at *;have HAR := hid (fun w => a3i op w)
 have HX0 := hid ((Ext.refl w).alloc (a0o op kind fa a u b));have HB0 := hid (Bx6.new w 101 (.int .i64 op) u (.int .i64 kind) (.int .i64 fa) (.int .i64 a) b);have HU := hid (hu.ext HX0.o);obtain ⟨Au, cu, rfl⟩ := hu.form;obtain ⟨Ab, cb, rfl⟩ := hb.form;have HFA := hid (fun w => a3v op w)
 have HFV := hid (fun w => a5P kind fa w)
 have HLI := hid hli;have HIL := hid (show ins.length ≤ 1000000 by have := a1P op; omega)
 have HBE := hid (show body.isEmpty = decide (body.length = 0) from by cases body <;> simp)
 replace HR := hid (show res = (a2h ins at_ && (fnB (a2J op) kind fa && (a0M op a loop && (if op = 9 then lb else body.isEmpty)))) from by
  rw [HR.o, decide_eq_true k3, show a5Q op = true by unfold a5Q; rw [decide_eq_true k1, decide_eq_true k2]; rfl, Bool.true_and, Bool.true_and])
 have o1 : ¬ op < 1 := by omega
 have o2 : ¬ 11 < op := by omega
 have hbn : ((ins.length : Int) != arity op) = false := by simpa using k3
 have HOP := hid (show op ≠ 1 ∧ op ≠ 9 ∧ op ≠ 10 ∧ op ≠ 11 from by refine ⟨?_, ?_, ?_, ?_⟩ <;> (rintro rfl; exact kf rfl))
 have HFN := hid (show fnB (a2J op) kind fa = (fam kind fa == a2J op) from if_neg kf);have hfp : (0 : Int) < a2J op := by have := b0G op; omega
 have hf0b : (a2J op == 0) = false := by simpa using kf
 have hb9 : (op != 9) = true := by simpa using HOP.o.2.1
 clear kf;clear hu hb hli k1 k2 k3;generalize body.isEmpty = be at *;generalize body.length = bl at *;generalize arity op = ar at *;generalize fnB (a2J op) kind fa = fB at *;generalize a2J op = fm at *;generalize fam kind fa = fv at *
 go_enter Tryz.func51, Tryz.ntmps51
 go_upto_region 1 with fail
 generalize w.heap.size = p at *;generalize w.alloc (a0o op kind fa a (.slice Au ins.length cu) (.slice Ab bl cb)) = w0 at *;obtain ⟨c0, c1, c2, c3, c4, c5⟩ := HB0.o.at_;refine yx ?_;refine ya ?_;refine yl1 c0 ?_;refine ya ?_;refine yl1 c0 ?_;refine ya ?_;refine yl1 c1 ?_;refine ya ?_;refine yl1 c0 ?_;refine yd1 (.int .i64 ar) (fun w' _ => HAR.o w') ?_
 refine ya ?_;refine a02 ?_;intro w1 hx1 hS1
 iterate 17 (rintro _ rfl)
 dsimp only [a0w];go_simp;have hx1 : Ext w0 w1 := hx1;have HX1 := hid (HX0.o.trans hx1);have HB1 := hid (HB0.o.ext hx1);have HU1 := hid (HU.o.ext hx1);clear hx1 hS1 c0 c1 c2 c3 c4 c5 HU HB0 HAR hbn
 go_wp2
 go_loopw [7] (fun iv wr => ∃ k : Nat, k ≤ ins.length ∧ iv = .int .i64 (k : Int) ∧ a2h (ins.take k) at_ = true ∧ Ext w1 wr) (fun iv _ => ins.length - (intOf iv).toNat)
 case atStart => exact ⟨0, Nat.zero_le _, rfl, rfl, Ext.refl _⟩
 case round =>
 obtain ⟨k, hk, rfl, hp, hext⟩ := hrel;have HP := hid hp;have HE := hid (HX1.o.trans hext);have HEX := hid hext;have HBR := hid (HB1.o.ext hext);obtain ⟨c0, c1, c2, c3, c4, c5⟩ := HBR.o.at_;clear hp
 by_cases hlt : k < ins.length
 · have q1 : (k : Int) < (ins.length : Int) := by omega
   have q0 : 0 ≤ (k : Int) := by omega
   have q1n : k < ins.length := hlt;have HLT := hid hlt;have hkb : k ≤ 1000000 := by have := HIL.o; omega
   obtain ⟨bA, oA, rfl, y0⟩ := ri1 (HU1.o.ext hext) hlt;have HS := hid (a9m ins at_ hlt);rw [HP.o, Bool.true_and] at HS;have HBAD := hid (fun (hx : ¬ (0 ≤ ins[k] ∧ ins[k] < (at_ : Int))) => show res = false from by rw [HR.o, a7k ins at_ hlt hx, Bool.false_and])
   generalize ins[k] = x at *;clear hext hlt hk
   by_cases x0 : x < 0
   · obtain rfl : res = false := HBAD.o (by omega)
     go_wp2
     go_ret
     exact ⟨rfl, HE.o⟩
   by_cases x1 : (at_ : Int) ≤ x
   · obtain rfl : res = false := HBAD.o (by omega)
     go_wp2
     go_ret
     exact ⟨rfl, HE.o⟩
   have HA := hid (show ahB x at_ = true by unfold ahB; rw [decide_eq_true (show 0 ≤ x by omega), decide_eq_true (show x < (at_ : Int) by omega)]; rfl)
   go_wp2
   exact ⟨⟨k + 1, HLT.o, by go_num, by rw [HS.o, HA.o], HEX.o⟩, by have := HLT.o; simp [intOf]; omega⟩
 obtain rfl : k = ins.length := by omega
 have q1 : ¬ (ins.length : Int) < (ins.length : Int) := by omega
 rw [List.take_length] at HP;replace HR := hid (show res = (fB && (a0M op a loop && (if op = 9 then lb else be))) from by rw [HR.o, HP.o, Bool.true_and])
 clear hext hk hlt HP HEX HU1 HB1 HX1 HIL
 go_upto_region 8 with fail
 by_cases kv : fv = fm
 case neg =>
  have hfn : (fv != fm) = true := by simpa using kv
  have HV := hid (show res = false from by rw [HR.o, HFN.o, show (fv == fm) = false by simpa using kv, Bool.false_and])
  clear kv;refine yx ?_;refine ya ?_;refine yl1 c0 ?_;refine yd1 (.int .i64 fm) (fun w' _ => HFA.o w') ?_
  refine ya ?_;refine yl2 c2 c3 ?_;refine yc1 (.int .i64 fv) (fun w' _ => HFV.o w') ?_
  refine ya ?_;refine yl1 c0 ?_;refine yd1 (.int .i64 fm) (fun w' _ => HFA.o w') ?_
  refine ya ?_;refine a02 ?_;intro w5 hx5 hS5
  iterate 36 (rintro _ rfl)
  dsimp only [a0w];go_simp;have hx5 : Ext wr w5 := hx5;have HX5 := hid (HE.o.trans hx5);have HB5 := hid (HBR.o.ext hx5);clear hx5 hS5 c0 c1 c2 c3 c4 c5;obtain rfl : res = false := HV.o
  go_wp2
  go_ret
  exact ⟨rfl, HX5.o⟩
 have hfn : (fv != fm) = false := by simpa using kv
 have HFE := hid (show (fv == fm) = true by simpa using kv)
 clear kv
 by_cases kb : bl = 0
 · replace HR := hid (show res = decide (a = 0) from by rw [HR.o, HFN.o, HFE.o, if_neg HOP.o.2.1, HBE.o, decide_eq_true kb, Bool.and_true, Bool.true_and]; unfold a0M; rw [if_neg HOP.o.1, if_neg HOP.o.2.1, if_neg HOP.o.2.2.1, if_neg HOP.o.2.2.2])
   have hb0 : ¬ (0 : Int) < (bl : Int) := by omega
   clear kb;refine yx ?_;refine ya ?_;refine yl1 c0 ?_;refine yd1 (.int .i64 fm) (fun w' _ => HFA.o w') ?_
   refine ya ?_;refine yl2 c2 c3 ?_;refine yc1 (.int .i64 fv) (fun w' _ => HFV.o w') ?_
   refine ya ?_;refine yl1 c0 ?_;refine yd1 (.int .i64 fm) (fun w' _ => HFA.o w') ?_
   refine ya ?_;refine yl1 c0 ?_;refine yd1 (.int .i64 fm) (fun w' _ => HFA.o w') ?_
   refine ya ?_;refine yl1 c0 ?_;refine ya ?_;refine yl1 c5 ?_;refine ya ?_;refine a02 ?_;intro w5 hx5 hS5
   iterate 36 (rintro _ rfl)
   dsimp only [a0w];go_simp;have hx5 : Ext wr w5 := hx5;have HX5 := hid (HE.o.trans hx5);have HB5 := hid (HBR.o.ext hx5);clear hx5 hS5 c0 c1 c2 c3 c4 c5;obtain ⟨c0, c1, c2, c3, c4, c5⟩ := HB5.o.at_;clear HFA HFV HBR HE HFN HBE;obtain ⟨n1, k9, n10, n11⟩ := HOP.o;have hn := HOP;have m1 : (op == 1) = false := by simpa using n1
   have m9 : (op == 9) = false := by simpa using k9
   have m10 : (op == 10) = false := by simpa using n10
   have m11 : (op == 11) = false := by simpa using n11
   clear n1 k9 n10 n11 hn
   by_cases h0 : a = 0
   · subst h0
     obtain rfl : res = true := by rw [HR.o]; rfl
     go_wp2_with fail
     go_ret
     exact ⟨rfl, HX5.o⟩
   obtain rfl : res = false := by rw [HR.o]; exact decide_eq_false h0
   have hb : (a == 0) = false := by simpa using h0
   go_wp2_with fail
   go_ret
   exact ⟨rfl, HX5.o⟩
 have HV := hid (show res = false from by rw [HR.o, if_neg HOP.o.2.1, HBE.o, decide_eq_false kb, Bool.and_false, Bool.and_false])
 have hb0 : (0 : Int) < (bl : Int) := by omega
 clear kb;refine yx ?_;refine ya ?_;refine yl1 c0 ?_;refine yd1 (.int .i64 fm) (fun w' _ => HFA.o w') ?_
 refine ya ?_;refine yl2 c2 c3 ?_;refine yc1 (.int .i64 fv) (fun w' _ => HFV.o w') ?_
 refine ya ?_;refine yl1 c0 ?_;refine yd1 (.int .i64 fm) (fun w' _ => HFA.o w') ?_
 refine ya ?_;refine yl1 c0 ?_;refine yd1 (.int .i64 fm) (fun w' _ => HFA.o w') ?_
 refine ya ?_;refine yl1 c0 ?_;refine ya ?_;refine yl1 c5 ?_;refine ya ?_;refine a02 ?_;intro w5 hx5 hS5
 iterate 36 (rintro _ rfl)
 dsimp only [a0w];go_simp;have hx5 : Ext wr w5 := hx5;have HX5 := hid (HE.o.trans hx5);have HB5 := hid (HBR.o.ext hx5);clear hx5 hS5 c0 c1 c2 c3 c4 c5;obtain rfl : res = false := HV.o
 go_wp2
 go_ret
 exact ⟨rfl, HX5.o⟩
end Go.Proofs.YtdkejfjcchlnpaaGreat
