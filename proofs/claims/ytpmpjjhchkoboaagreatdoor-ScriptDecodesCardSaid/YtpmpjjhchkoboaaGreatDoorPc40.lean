/-
  GrRef, ScrR2, packed: what the claim needs of them.
-/
import Derived.Test.YtpmpjjhchkoboaaGreatDoorPc37
import Derived.Test.YtpmpjjhchkoboaaGreatDoorPc38
import Derived.Test.YtpmpjjhchkoboaaGreatDoorPc39
import Derived.Test.YtpmpjjhchkoboaaGreatDoorPc21
import Derived.Test.YtpmpjjhchkoboaaGreatDoorPc24
import Derived.Test.YtpmpjjhchkoboaaGreatDoorPc28
import Derived.Test.YtpmpjjhchkoboaaGreatDoorPc15
open Go.Lib (hid)
set_option linter.unusedSimpArgs false
set_option linter.unusedVariables false
set_option maxRecDepth 100000
namespace Go.Proofs.YtpmpjjhchkoboaaGreatDoor
open Go.RowKit Go.Ox Go.Ox.Gr
theorem rnode_gen (op kind fa a loop : Int) (u b : Value) (ins : List Int) (body : List Nd) (d at_ : Nat) (lb : Bool) (w : World) (hl : loop = -1 ∨ 0 ≤ loop) (hu : RE w u ins) (hb : NodesR d w b body)
 (hli : op = 9 → numB op a loop = true → ∀ W, Ext w W → Calls Tryz.prog 126 #[b, .int .i64 (at_ : Int)] W fun e W' => e = .returned (.bool lb) ∧ Ext W W') :
 Calls Tryz.prog 83 #[ndAg op kind fa a u b, .int .i64 (at_ : Int), .int .i64 loop] w fun e w' => e = .returned (.bool (nodeB loop lb (.mk op ins kind fa a body) at_)) ∧ Ext w w' := by
 by_cases o1 : op < 1
 · exact rn_no op kind fa a loop u b ins body d at_ lb w hl hu hb hli (.inl o1)
 by_cases o2 : 11 < op
 · exact rn_no op kind fa a loop u b ins body d at_ lb w hl hu hb hli (.inr (.inl ⟨o1, o2⟩))
 by_cases k3 : (ins.length : Int) = arity op
 case neg => exact rn_no op kind fa a loop u b ins body d at_ lb w hl hu hb hli (.inr (.inr ⟨o1, o2, k3⟩))
 have k1 : 1 ≤ op := by omega
 have k2 : op ≤ 11 := by omega
 by_cases kf : fmly op = 0
 case neg => exact rn_f op kind fa a loop u b ins body d at_ lb w hl hu hb hli k1 k2 k3 kf
 by_cases q1 : kind = 0
 case neg => exact rn_a op kind fa a loop u b ins body d at_ lb w hl hu hb hli k1 k2 k3 kf (.inl q1)
 by_cases q2 : fa = 0
 case neg => exact rn_a op kind fa a loop u b ins body d at_ lb w hl hu hb hli k1 k2 k3 kf (.inr (.inl ⟨q1, q2⟩))
 by_cases q3 : op = 9
 · exact rn_a op kind fa a loop u b ins body d at_ lb w hl hu hb hli k1 k2 k3 kf (.inr (.inr ⟨q1, q2, q3⟩))
 exact rn_p op kind fa a loop u b ins body d at_ lb w hl hu hb hli k1 k2 k3 kf q3 q1 q2
end Go.Proofs.YtpmpjjhchkoboaaGreatDoor
namespace Go.Proofs.YtpmpjjhchkoboaaGreatDoor
open Go.RowKit Go.Ox Go.Ox.Gr
attribute [local irreducible] RE NodesR
theorem rnode_at (loop : Int) (lb : Nd → Nat → Bool) (n : Nd) (i d : Nat) (u b : Value) (w : World) (hl : loop = -1 ∨ 0 ≤ loop) (hu : RE w u n.ins) (hb : NodesR d w b n.body)
 (hli : n.op = 9 → numOk n loop = true → ∀ W, Ext w W → Calls Tryz.prog 126 #[b, .int .i64 (i : Int)] W fun e W' => e = .returned (.bool (lb n i)) ∧ Ext W W') :
 Calls Tryz.prog 83 #[ndAg n.op n.kind n.fa n.a u b, .int .i64 (i : Int), .int .i64 loop] w fun e w' => e = .returned (.bool (nodeB loop (lb n i) n i)) ∧ Ext w w' := by
 cases n with
 | mk op ins kind fa a body => exact rnode_gen op kind fa a loop u b ins body d i (lb (.mk op ins kind fa a body) i) w hl hu hb hli
theorem numIn_9 {n : Nd} {loop : Nat} (h : n.op = 9) : numOk n (loop : Int) = true → False := by
 unfold numOk
 rw [if_neg (by omega), if_pos h, decide_eq_false (by omega), Bool.false_and]
 intro h; cases h
set_option maxHeartbeats 4000000 in
theorem rbody_any (loop : Nat) (d : Nat) (v : Value) (l : List Nd) (w : World) (hv : NodesR d w v l) :
 Calls Tryz.prog 126 #[v, .int .i64 (loop : Int)] w fun e w' => e = .returned (.bool (bodyOk l loop)) ∧ Ext w w' := by
 obtain ⟨A, c, rfl⟩ := hv.form
 have HV := hid hv
 clear hv
 unfold bodyOk
 by_cases h1 : 1 ≤ l.length
 · by_cases h2 : l.length ≤ 32
   · rw [decide_eq_true h1, decide_eq_true h2, Bool.true_and, Bool.true_and]
     have g1 : ¬ (l.length : Int) < 1 := by omega
     have g2 : ¬ (32 : Int) < (l.length : Int) := by omega
     have H2 := hid h2
     clear h1 h2
     go_enter Tryz.func126, Tryz.ntmps126
     go_wp2
     go_loopw [5] (fun iv wr => ∃ k : Nat, k ≤ l.length ∧ iv = .int .i64 (k : Int) ∧ each (inOk loop) (l.take k) 0 = true ∧ Ext w wr) (fun iv _ => l.length - (intOf iv).toNat)
     case atStart => exact ⟨0, Nat.zero_le _, rfl, rfl, Ext.refl _⟩
     case round =>
      obtain ⟨k, hk, rfl, hp, hext⟩ := hrel
      have HP := hid hp
      have HE := hid hext
      clear hp
      by_cases hlt : k < l.length
      · have q1 : (k : Int) < (l.length : Int) := by omega
        have q0 : 0 ≤ (k : Int) := by omega
        have q1n : k < l.length := hlt
        have HLT := hid hlt
        have hk32 : k ≤ 32 := by have := H2.out; omega
        obtain ⟨bA, oA, u, bv, rfl, c0, c1, c2, c3, c4, c5, hu, hbv⟩ := (HV.out.ext hext).at_ hlt
        have HS := hid (each_s (inOk loop) l hlt)
        have HNO := hid (each_no (inOk loop) l hlt)
        have HC := rnode_at (loop : Int) (fun _ _ => false) l[k] k _ u bv wr (.inr (by omega)) hu hbv (fun h9 hn => (numIn_9 h9 hn).elim)
        rw [nodeB_in] at HC
        have HC := hid HC
        generalize inOk loop l[k] k = r at *
        generalize l[k] = x at *
        obtain ⟨op, ins, kind, fa, a, body⟩ := x
        simp only [Nd.op, Nd.kind, Nd.fa, Nd.a, Nd.ins, Nd.body] at c0 c1 c2 c3 c4 c5 hu hbv HC
        obtain ⟨Au, cu, rfl⟩ := hu.form
        obtain ⟨Ab, cb, rfl⟩ := hbv.form
        clear hext hlt hk hu hbv
        rw [HP.out, Bool.true_and] at HS
        go_wp2_with fail
        refine HC.out.mono ?_
        rintro e w2 ⟨rfl, he2⟩
        have HX2 := hid (HE.out.trans he2)
        clear he2 c0 c1 c2 c3 c4 c5
        cases r with
        | true =>
         go_wp2
         exact ⟨⟨k + 1, HLT.out, by go_num, HS.out, HX2.out⟩, by have := HLT.out; simp [intOf]; omega⟩
        | false =>
         have HF := hid (HNO.out rfl)
         go_wp2
         go_ret
         exact ⟨by rw [HF.out]; rfl, HX2.out⟩
      · obtain rfl : k = l.length := by omega
        have q1 : ¬ (l.length : Int) < (l.length : Int) := by omega
        rw [List.take_length] at HP
        clear hext
        go_wp2
        go_ret
        exact ⟨by rw [HP.out]; rfl, HE.out⟩
   · rw [decide_eq_false h2, Bool.false_and, Bool.and_false]
     have g1 : ¬ (l.length : Int) < 1 := by omega
     have g2 : (32 : Int) < (l.length : Int) := by omega
     clear h1 h2
     go_enter Tryz.func126, Tryz.ntmps126
     go_wp2
     go_ret
     exact ⟨rfl, Ext.refl _⟩
 · rw [decide_eq_false h1, Bool.false_and]
   have g1 : (l.length : Int) < 1 := by omega
   clear h1
   go_enter Tryz.func126, Tryz.ntmps126
   go_wp2
   go_ret
   exact ⟨rfl, Ext.refl _⟩
set_option maxHeartbeats 4000000 in
theorem rCheck_any (d : Nat) (v : Value) (l : List Nd) (out : Int) (w : World) (hv : NodesR d w v l) :
 Calls Tryz.prog 36 #[gAg v out] w fun e w' => e = .returned (.bool (gOk (l, out))) ∧ Ext w w' := by
 obtain ⟨A, c, rfl⟩ := hv.form
 have HX0 := hid ((Ext.refl w).alloc (gCs (.slice A l.length c) out))
 have HB0 := hid (Blk.new w 26 #[.slice A l.length c, .int .i64 out])
 have HV := hid (hv.ext HX0.out)
 have HG := hid (show gOk (l, out) = ((decide (1 ≤ l.length) && (decide (l.length ≤ 32) && each outOk l 0)) && (decide (0 ≤ out) && (decide (out < (l.length : Int)) && decide (loops l ≤ 1)))) from rfl)
 generalize gOk (l, out) = R at *
 clear hv
 go_enter Tryz.func36, Tryz.ntmps36
 go_upto_region 1 with fail
 generalize w.heap.size = p at *
 generalize w.alloc (gCs (.slice A l.length c) out) = w0 at *
 have c0 : w0.cell? ⟨p, 0, none⟩ = some (.slice A l.length c) := HB0.out.cell 0
 have c1 : w0.cell? ⟨p, 1, none⟩ = some (.int .i64 out) := HB0.out.cell 1
 by_cases h1 : 1 ≤ l.length
 case neg =>
  have HE := hid (show R = false by rw [HG.out, decide_eq_false h1]; rfl)
  have g1 : (l.length : Int) < 1 := by omega
  clear h1
  go_wp2
  go_ret
  exact ⟨by rw [HE.out]; rfl, HX0.out⟩
 by_cases h2 : l.length ≤ 32
 case neg =>
  have HE := hid (show R = false by rw [HG.out, decide_eq_false h2]; simp)
  have g1 : ¬ (l.length : Int) < 1 := by omega
  have g2 : (32 : Int) < (l.length : Int) := by omega
  clear h1 h2
  go_wp2
  go_ret
  exact ⟨by rw [HE.out]; rfl, HX0.out⟩
 by_cases h3 : 0 ≤ out
 case neg =>
  have HE := hid (show R = false by rw [HG.out, decide_eq_false h3]; simp)
  have g1 : ¬ (l.length : Int) < 1 := by omega
  have g2 : ¬ (32 : Int) < (l.length : Int) := by omega
  have g3 : out < 0 := by omega
  clear h1 h2 h3
  go_wp2
  go_ret
  exact ⟨by rw [HE.out]; rfl, HX0.out⟩
 by_cases h4 : out < (l.length : Int)
 case neg =>
  have HE := hid (show R = false by rw [HG.out, decide_eq_false h4]; simp)
  have g1 : ¬ (l.length : Int) < 1 := by omega
  have g2 : ¬ (32 : Int) < (l.length : Int) := by omega
  have g3 : ¬ out < 0 := by omega
  have g4 : (l.length : Int) ≤ out := by omega
  clear h1 h2 h3 h4
  go_wp2
  go_ret
  exact ⟨by rw [HE.out]; rfl, HX0.out⟩
 rw [decide_eq_true h1, decide_eq_true h2, decide_eq_true h3, decide_eq_true h4, Bool.true_and, Bool.true_and, Bool.true_and, Bool.true_and] at HG
 have g1 : ¬ (l.length : Int) < 1 := by omega
 have g2 : ¬ (32 : Int) < (l.length : Int) := by omega
 have g3 : ¬ out < 0 := by omega
 have g4 : ¬ (l.length : Int) ≤ out := by omega
 have H2 := hid h2
 clear h1 h2 h3 h4
 go_wp2
 clear c0 c1 g3 g4
 go_loopw [3, 4] (fun ov iv wr => ∃ k : Nat, k ≤ l.length ∧ iv = .int .i64 (k : Int) ∧ ov = .int .i64 (loops (l.take k) : Int) ∧ each outOk (l.take k) 0 = true ∧ Ext w0 wr) (fun _ iv _ => l.length - (intOf iv).toNat)
 case atStart => exact ⟨0, Nat.zero_le _, rfl, rfl, rfl, Ext.refl _⟩
 case round =>
  obtain ⟨k, hk, rfl, rfl, hp, hext⟩ := hrel
  have HP := hid hp
  have HE := hid hext
  have hll := loops_le l k
  have hb := HB0.out.ext hext
  have c0 : wr.cell? ⟨p, 0, none⟩ = some (.slice A l.length c) := hb.cell 0
  clear hp hb
  by_cases hlt : k < l.length
  · have q1 : (k : Int) < (l.length : Int) := by omega
    have q0 : 0 ≤ (k : Int) := by omega
    have q1n : k < l.length := hlt
    have HLT := hid hlt
    have hk32 : k ≤ 32 := by have := H2.out; omega
    obtain ⟨bA, oA, u, bv, rfl, e0, e1, e2, e3, e4, e5, hu, hbv⟩ := (HV.out.ext hext).at_ hlt
    have HLS := hid (loops_s l hlt)
    have HS := hid (each_s outOk l hlt)
    have HNO := hid (each_no outOk l hlt)
    have HC := rnode_at (-1) (fun n i => bodyOk n.body i) l[k] k _ u bv wr (.inl rfl) hu hbv (fun _ _ W he => rbody_any k _ bv l[k].body W (hbv.ext he))
    rw [nodeB_out] at HC
    have HC := hid HC
    obtain ⟨n, hn⟩ : ∃ n, n = loops (l.take k) := ⟨_, rfl⟩
    rw [← hn] at HLS hll ⊢
    generalize outOk l[k] k = r at *
    generalize l[k] = x at *
    obtain ⟨op, ins, kind, fa, a, body⟩ := x
    simp only [Nd.op, Nd.kind, Nd.fa, Nd.a, Nd.ins, Nd.body] at e0 e1 e2 e3 e4 e5 hu hbv HC
    replace HLS := hid (show loops (l.take (k + 1)) = n + (if op = 9 then 1 else 0) from HLS.out)
    obtain ⟨Au, cu, rfl⟩ := hu.form
    obtain ⟨Ab, cb, rfl⟩ := hbv.form
    clear hext hlt hk hu hbv hn
    rw [HP.out, Bool.true_and] at HS
    go_wp2_with fail
    refine HC.out.mono ?_
    rintro e w2 ⟨rfl, he2⟩
    have HX2 := hid (HE.out.trans he2)
    have c0 := he2.cell c0
    have e0 := he2.cell e0
    clear he2 e1 e2 e3 e4 e5
    cases r with
    | true =>
     by_cases h9 : op = 9
     · rw [if_pos h9] at HLS
       subst h9
       go_wp2
       exact ⟨⟨k + 1, HLT.out, by go_num, by rw [HLS.out]; go_num, HS.out, HX2.out⟩, by have := HLT.out; simp [intOf]; omega⟩
     · rw [if_neg h9] at HLS
       go_wp2
       exact ⟨⟨k + 1, HLT.out, by go_num, by rw [HLS.out]; rfl, HS.out, HX2.out⟩, by have := HLT.out; simp [intOf]; omega⟩
    | false =>
     have HF := hid (show R = false by rw [HG.out, HNO.out rfl]; rfl)
     go_wp2
     go_ret
     exact ⟨by rw [HF.out]; rfl, HX0.out.trans HX2.out⟩
  · obtain rfl : k = l.length := by omega
    have q1 : ¬ (l.length : Int) < (l.length : Int) := by omega
    rw [List.take_length] at HP ⊢
    rw [HP.out, Bool.true_and] at HG
    clear hext hll
    generalize loops l = n at *
    by_cases h1 : n ≤ 1
    · have HF := hid (show R = true by rw [HG.out, decide_eq_true h1])
      have q2 : (n : Int) ≤ 1 := by omega
      clear h1
      go_wp2
      go_ret
      exact ⟨by rw [HF.out]; rfl, HX0.out.trans HE.out⟩
    · have HF := hid (show R = false by rw [HG.out, decide_eq_false h1])
      have q2 : ¬ (n : Int) ≤ 1 := by omega
      clear h1
      go_wp2
      go_ret
      exact ⟨by rw [HF.out]; rfl, HX0.out.trans HE.out⟩
end Go.Proofs.YtpmpjjhchkoboaaGreatDoor
namespace Go.Proofs.YtpmpjjhchkoboaaGreatDoor
open Go.RowKit Go.Ox Go.Ox.Gr Go.Ox.Sc
attribute [local irreducible] RE OE EpR InsR ActsR RP NodesR
theorem epOk_no1 {L : List Bag} (h : ¬ L.length ≤ 4) : epOk L = false := by unfold epOk; rw [decide_eq_false h, Bool.false_and]
theorem epOk_no2 {L : List Bag} {k : Nat} (h : k < L.length) (hm : Rec.may L[k] ≠ 0) : epOk L = false := by
 cases hx : epOk L with
 | false => rfl
 | true =>
  unfold epOk at hx
  simp only [Bool.and_eq_true, List.all_eq_true, decide_eq_true_eq] at hx
  exact absurd (hx.2 _ (List.getElem_mem h)) hm
theorem epOk_yes {L : List Bag} (h : L.length ≤ 4) (hm : (L.all fun b => decide (Rec.may b = 0)) = true) : epOk L = true := by unfold epOk; rw [decide_eq_true h, hm]; rfl
theorem all_s {α : Type} (p : α → Bool) (l : List α) {k : Nat} (h : k < l.length) (hp : (l.take k).all p = true) : (l.take (k + 1)).all p = p l[k] := by
 rw [List.take_succ_eq_append_getElem h, List.all_append, hp, Bool.true_and]; exact Bool.and_true _
theorem all_no {α : Type} (p : α → Bool) (l : List α) {k : Nat} (h : k < l.length) (hp : p l[k] = false) : l.all p = false := by
 cases hx : l.all p with
 | false => rfl
 | true =>
  have := List.all_eq_true.1 hx _ (List.getElem_mem h)
  rw [hp] at this; cases this
structure Bx4 (w : World) (p : Nat) (T : TypeId) (c0 c1 c2 c3 : Value) : Prop where
 b : Blk w p T #[c0, c1, c2, c3]
section
variable {w w' : World} {p : Nat} {T : TypeId} {c0 c1 c2 c3 : Value}
theorem Bx4.at_ (h : Bx4 w p T c0 c1 c2 c3) : w.cell? ⟨p, 0, none⟩ = some c0 ∧ w.cell? ⟨p, 1, none⟩ = some c1 ∧ w.cell? ⟨p, 2, none⟩ = some c2 ∧ w.cell? ⟨p, 3, none⟩ = some c3 :=
 ⟨h.b.cell 0, h.b.cell 1, h.b.cell 2, h.b.cell 3⟩
theorem Bx4.ext (h : Bx4 w p T c0 c1 c2 c3) (he : Ext w w') : Bx4 w' p T c0 c1 c2 c3 := ⟨h.b.ext he⟩
theorem Bx4.new (w : World) (T : TypeId) (c0 c1 c2 c3 : Value) : Bx4 (w.alloc (.cells #[c0, c1, c2, c3] T)) w.heap.size T c0 c1 c2 c3 := ⟨Blk.new _ _ _⟩
end
theorem scOk_alt (k0 k1 k2 k3 : Int) (g : Gr.G) (ins : List (List Bag)) (acts : List Sc.Act) : scOk ⟨(k0, k1, k2, k3), g, ins, acts⟩ =
 (inR k0 1073741824 && (inR k1 1073741824 && (inR k2 1073741824 && (inR k3 1073741824 && (Gr.gOk g && (decide (ins.length ≤ 16) && (decide (acts.length ≤ 256) && (ins.all epOk && acts.all actOk)))))))) := by
 have e : scOk ⟨(k0, k1, k2, k3), g, ins, acts⟩ = (([k0, k1, k2, k3].all fun n => inR n 1073741824) && Gr.gOk g && decide (ins.length ≤ 16) && ins.all epOk && decide (acts.length ≤ 256) && acts.all actOk) := rfl
 rw [e]
 simp only [List.all_cons, List.all_nil, Bool.and_true, Bool.and_assoc]
 congr 6
 cases ins.all epOk <;> cases decide (acts.length ≤ 256) <;> rfl
set_option maxHeartbeats 8000000 in
theorem rCheck26_any (d : Nat) (s : Sc) (nv iv av : Value) (w : World) (h : ScR d w nv iv av s) (hs : ScSm s) :
 Calls Tryz.prog 11 #[scAg s nv iv av] w fun e w' => e = .returned (.bool (scOk s)) ∧ Ext w w' := by
 obtain ⟨⟨k0, k1, k2, k3⟩, ⟨ns, out⟩, ins, acts⟩ := s
 obtain ⟨hn, hi, ha⟩ := h
 obtain ⟨hs1, hs2, hs3, hs4⟩ := hs
 dsimp only at *
 have HR := hid (scOk_alt k0 k1 k2 k3 (ns, out) ins acts)
 generalize scOk ⟨(k0, k1, k2, k3), (ns, out), ins, acts⟩ = res at *
 have HX := hid ((Ext.refl w).alloc (scCs (.int .i64 k0) (.int .i64 k1) (.int .i64 k2) (.int .i64 k3) nv out iv av))
 have HB := hid (Bx8.new w 30 (.int .i64 k0) (.int .i64 k1) (.int .i64 k2) (.int .i64 k3) nv (.int .i64 out) iv av)
 have HN := hid (hn.ext HX.out)
 have HI := hid (hi.ext HX.out)
 have HA := hid (ha.ext HX.out)
 have HCG := hid (fun W (h : NodesR d W nv ns) => rCheck_any d nv ns out W h)
 have H0 := hid (fun W => rnumber_any k0 W)
 have H1 := hid (fun W => rnumber_any k1 W)
 have H2 := hid (fun W => rnumber_any k2 W)
 have H3 := hid (fun W => rnumber_any k3 W)
 have HS2 := hid hs2
 have HS4 := hid hs4
 have HSA := hid (show ∀ (k : Nat) (h : k < ins.length), epOk ins[k] = false → ins.all epOk = false from fun k h q => all_no epOk ins h q)
 have HSB := hid (show ∀ (k : Nat) (h : k < acts.length), actOk acts[k] = false → acts.all actOk = false from fun k h q => all_no actOk acts h q)
 have HTA := hid (fun (k : Nat) (h : k < ins.length) q => all_s epOk ins h q)
 have HTB := hid (fun (k : Nat) (h : k < acts.length) q => all_s actOk acts h q)
 generalize inR k0 1073741824 = b0 at *
 generalize inR k1 1073741824 = b1 at *
 generalize inR k2 1073741824 = b2 at *
 generalize inR k3 1073741824 = b3 at *
 generalize gOk (ns, out) = b4 at *
 obtain ⟨AN, cN, rfl⟩ := hn.form
 obtain ⟨AI, cI, rfl⟩ := hi.form
 obtain ⟨AA, cA, rfl⟩ := ha.form
 clear hn hi ha hs1 hs2 hs3 hs4
 go_enter Tryz.func11, Tryz.ntmps11
 go_upto_region 1 with fail
 generalize w.heap.size = p at *
 generalize w.alloc (scCs (.int .i64 k0) (.int .i64 k1) (.int .i64 k2) (.int .i64 k3) (.slice AN ns.length cN) out (.slice AI ins.length cI) (.slice AA acts.length cA)) = w0 at *
 obtain ⟨c0, c1, c2, c3, c4, c5, c6, c7⟩ := HB.out.at_
 have HXC := hid ((Ext.refl w0).alloc (.cells #[.int .i64 k0, .int .i64 k1, .int .i64 k2, .int .i64 k3] 23))
 have HBC := hid (Bx4.new w0 23 (.int .i64 k0) (.int .i64 k1) (.int .i64 k2) (.int .i64 k3))
 have HB1 := hid (HB.out.ext HXC.out)
 have HX1 := hid (HX.out.trans HXC.out)
 go_upto_region 2 with fail
 clear c0 c1 c2 c3 c4 c5 c6 c7
 generalize w0.heap.size = q at *
 generalize w0.alloc (.cells #[.int .i64 k0, .int .i64 k1, .int .i64 k2, .int .i64 k3] 23) = w1 at *
 obtain ⟨c0, c1, c2, c3, c4, c5, c6, c7⟩ := HB1.out.at_
 obtain ⟨d0, d1, d2, d3⟩ := HBC.out.at_
 go_wp2_with fail
 refine (H0.out _).mono ?_
 rintro e w2 ⟨rfl, rfl⟩
 cases b0 with
 | false => obtain rfl : res = false := HR.out; go_wp2; go_ret; exact ⟨rfl, HX1.out⟩
 | true =>
 go_wp2_with fail
 refine (H1.out _).mono ?_
 rintro e w2 ⟨rfl, rfl⟩
 cases b1 with
 | false => obtain rfl : res = false := HR.out; go_wp2; go_ret; exact ⟨rfl, HX1.out⟩
 | true =>
 go_wp2_with fail
 refine (H2.out _).mono ?_
 rintro e w2 ⟨rfl, rfl⟩
 cases b2 with
 | false => obtain rfl : res = false := HR.out; go_wp2; go_ret; exact ⟨rfl, HX1.out⟩
 | true =>
 go_wp2_with fail
 refine (H3.out _).mono ?_
 rintro e w2 ⟨rfl, rfl⟩
 cases b3 with
 | false => obtain rfl : res = false := HR.out; go_wp2; go_ret; exact ⟨rfl, HX1.out⟩
 | true =>
 go_wp2_with fail
 refine (HCG.out _ (HN.out.ext HXC.out)).mono ?_
 rintro e w3 ⟨rfl, he3⟩
 have HX3 := hid (HX1.out.trans he3)
 have HE3 := hid (HXC.out.trans he3)
 have HB3 := hid (HB1.out.ext he3)
 clear he3 c0 c1 c2 c3 c4 c5 c6 c7 d0 d1 d2 d3
 obtain ⟨c0, c1, c2, c3, c4, c5, c6, c7⟩ := HB3.out.at_
 cases b4 with
 | false => obtain rfl : res = false := HR.out; go_wp2; go_ret; exact ⟨rfl, HX3.out⟩
 | true =>
 by_cases hi : ins.length ≤ 16
 case neg =>
  have hi2 : decide (16 < (ins.length : Int)) = true := decide_eq_true (by omega)
  obtain rfl : res = false := by rw [HR.out, decide_eq_false hi]; rfl
  clear hi
  go_wp2
  go_ret
  exact ⟨rfl, HX3.out⟩
 by_cases ha : acts.length ≤ 256
 case neg =>
  have hi2 : decide (16 < (ins.length : Int)) = false := decide_eq_false (by omega)
  have hi3 : decide (256 < (acts.length : Int)) = true := decide_eq_true (by omega)
  obtain rfl : res = false := by rw [HR.out, decide_eq_true hi, decide_eq_false ha]; rfl
  clear hi ha
  go_wp2
  go_ret
  exact ⟨rfl, HX3.out⟩
 have hi2 : decide (16 < (ins.length : Int)) = false := decide_eq_false (by omega)
 have hi3 : decide (256 < (acts.length : Int)) = false := decide_eq_false (by omega)
 rw [decide_eq_true hi, decide_eq_true ha] at HR
 replace HR := hid (show res = (ins.all epOk && acts.all actOk) from HR.out)
 have HI16 := hid hi
 have HA256 := hid ha
 clear hi ha
 go_wp2
 clear hi2 hi3 c0 c1 c2 c3 c4 c5 c6 c7
 go_loopw [4] (fun iv wr => ∃ i : Nat, i ≤ ins.length ∧ iv = .int .i64 (i : Int) ∧ (ins.take i).all epOk = true ∧ Ext w3 wr) (fun iv _ => ins.length - (intOf iv).toNat)
 case atStart => exact ⟨0, Nat.zero_le _, rfl, rfl, Ext.refl _⟩
 case round =>
  obtain ⟨i, hi, rfl, hp, hext⟩ := hrel
  have HP := hid hp
  have HE := hid hext
  have hi16 : i ≤ 16 := by have := HI16.out; omega
  obtain ⟨c0, c1, c2, c3, c4, c5, c6, c7⟩ := (HB3.out.ext hext).at_
  clear hp
  by_cases hlt : i < ins.length
  · have q1 : (i : Int) < (ins.length : Int) := by omega
    have q0 : 0 ≤ (i : Int) := by omega
    have q1n : i < ins.length := hlt
    have HLT := hid hlt
    obtain ⟨bI, oI, u0, rfl, z0, hu0⟩ := (InsR.ext HI.out (HE3.out.trans hext)).at_ hlt
    have HST := hid (HTA.out i hlt HP.out)
    have HBAD := hid (show epOk ins[i] = false → res = false from fun h => by rw [HR.out, HSA.out i hlt h]; rfl)
    have HLB := hid (HS2.out _ (List.getElem_mem hlt))
    generalize ins[i] = L at *
    have HU0 := hid hu0
    obtain ⟨AL, cL, rfl⟩ := hu0.form
    have HZ0 := hid z0
    clear hu0 hlt hi hext
    by_cases hl4 : L.length ≤ 4
    case neg =>
     have hl4b : decide (4 < (L.length : Int)) = true := decide_eq_true (by omega)
     obtain rfl : res = false := HBAD.out (epOk_no1 hl4)
     clear hl4
     go_wp2
     go_ret
     exact ⟨rfl, HX3.out.trans HE.out⟩
    have hl4b : decide (4 < (L.length : Int)) = false := decide_eq_false (by omega)
    have HL4 := hid hl4
    clear hl4
    go_wp2
    clear hl4b q1 q0 q1n hi16 z0 c0 c1 c2 c3 c4 c5 c6 c7
    go_loopw [5] (fun jv wq => ∃ k : Nat, k ≤ L.length ∧ jv = .int .i64 (k : Int) ∧ (L.take k).all (fun b => decide (Rec.may b = 0)) = true ∧ Ext wr wq) (fun jv _ => L.length - (intOf jv).toNat)
    case atStart => exact ⟨0, Nat.zero_le _, rfl, rfl, Ext.refl _⟩
    case round =>
     obtain ⟨k, hk, rfl, hp, hext⟩ := hrel
     have HP2 := hid hp
     have HEQ := hid hext
     have HEW := hid (HE.out.trans hext)
     have hk4 : k ≤ 4 := by have := HL4.out; omega
     have hi16 : i ≤ 16 := by have := HI16.out; have := HLT.out; omega
     have q1 : (i : Int) < (ins.length : Int) := by have := HLT.out; omega
     have q0 : 0 ≤ (i : Int) := by omega
     have q1n : i < ins.length := HLT.out
     obtain ⟨c0, c1, c2, c3, c4, c5, c6, c7⟩ := (HB3.out.ext HEW.out).at_
     have z0 := hext.cell HZ0.out
     clear hp
     by_cases hkl : k < L.length
     · have r1 : (k : Int) < (L.length : Int) := by omega
       have r0 : 0 ≤ (k : Int) := by omega
       have r1n : k < L.length := hkl
       have HKL := hid hkl
       obtain ⟨bE, oE, u3, rfl, y0, hu3⟩ := (EpR.ext HU0.out hext).at_ hkl
       have HS2 := hid (all_s (fun b => decide (Rec.may b = 0)) L hkl HP2.out)
       have HB2 := hid (show Rec.may L[k] ≠ 0 → res = false from fun h => HBAD.out (epOk_no2 hkl h))
       have HMY := hid (rmay_any u3 L[k] _ hu3 (HLB.out.2 _ (List.getElem_mem hkl)))
       generalize L[k] = B at *
       generalize Rec.may B = m at *
       obtain ⟨AB, cB, rfl⟩ := hu3.form
       clear hu3 hkl hk hext
       by_cases hm : m = 0
       · have hmb : (m != 0) = false := by simpa using hm
         have HM := hid hm
         clear hm
         go_wp2_with fail
         refine HMY.out.mono ?_
         rintro e w5 ⟨rfl, he5⟩
         go_wp2
         exact ⟨⟨k + 1, HKL.out, by go_num, by rw [HS2.out]; exact decide_eq_true HM.out, HEQ.out.trans he5⟩, by have := HKL.out; simp [intOf]; omega⟩
       · have hmb : (m != 0) = true := by simpa using hm
         obtain rfl : res = false := HB2.out hm
         clear hm
         go_wp2_with fail
         refine HMY.out.mono ?_
         rintro e w5 ⟨rfl, he5⟩
         go_wp2
         go_ret
         exact ⟨rfl, (HX3.out.trans HEW.out).trans he5⟩
     · obtain rfl : k = L.length := by omega
       have r1 : ¬ (L.length : Int) < (L.length : Int) := by omega
       rw [List.take_length] at HP2
       have HEP := hid (epOk_yes HL4.out HP2.out)
       clear hk hkl hext
       go_wp2
       exact ⟨⟨i + 1, HLT.out, by go_num, by rw [HST.out]; exact HEP.out, HEW.out⟩, by have := HLT.out; simp [intOf]; omega⟩
  · obtain rfl : i = ins.length := by omega
    have q1 : ¬ (ins.length : Int) < (ins.length : Int) := by omega
    rw [List.take_length] at HP
    replace HR := hid (show res = acts.all actOk from by rw [HR.out, HP.out]; rfl)
    have HX4 := hid (HX3.out.trans HE.out)
    have HE4 := hid (HE3.out.trans HE.out)
    have HB4 := hid (HB3.out.ext HE.out)
    clear hi hlt hext
    go_wp2
    clear c0 c1 c2 c3 c4 c5 c6 c7 q1
    go_loopw [6] (fun jv wq => ∃ k : Nat, k ≤ acts.length ∧ jv = .int .i64 (k : Int) ∧ (acts.take k).all actOk = true ∧ Ext wr wq) (fun jv _ => acts.length - (intOf jv).toNat)
    case atStart => exact ⟨0, Nat.zero_le _, rfl, rfl, Ext.refl _⟩
    case round =>
     obtain ⟨k, hk, rfl, hp, hext⟩ := hrel
     have HP2 := hid hp
     have HEQ := hid hext
     have hk256 : k ≤ 256 := by have := HA256.out; omega
     obtain ⟨c0, c1, c2, c3, c4, c5, c6, c7⟩ := (HB4.out.ext hext).at_
     clear hp
     by_cases hkl : k < acts.length
     · have r1 : (k : Int) < (acts.length : Int) := by omega
       have r0 : 0 ≤ (k : Int) := by omega
       have r1n : k < acts.length := hkl
       have HKL := hid hkl
       obtain ⟨bE, oE, u3, rfl, z0, z1, z2, z3, z4, z5, hu3⟩ := (ActsR.ext HA.out (HE4.out.trans hext)).at_ hkl
       have HS2 := hid (HTB.out k hkl HP2.out)
       have HB2 := hid (show actOk acts[k] = false → res = false from fun h => by rw [HR.out, HSB.out k hkl h])
       generalize acts[k] = a at *
       obtain ⟨⟨ak, an, aa, ab, at_⟩, ks⟩ := a
       dsimp only at z0 z1 z2 z3 z4 z5 hu3
       have HMY := hid (actMay_any ak an aa ab at_ u3 ks _ hu3)
       generalize actOk ((ak, an, aa, ab, at_), ks) = m at *
       obtain ⟨AB, cB, rfl⟩ := hu3.form
       clear hu3 hkl hk hext
       go_wp2_with fail
       refine HMY.out.mono ?_
       rintro e w5 ⟨rfl, he5⟩
       cases m with
       | true =>
        go_wp2
        exact ⟨⟨k + 1, HKL.out, by go_num, HS2.out, HEQ.out.trans he5⟩, by have := HKL.out; simp [intOf]; omega⟩
       | false =>
        obtain rfl : res = false := HB2.out rfl
        go_wp2
        go_ret
        exact ⟨rfl, (HX4.out.trans HEQ.out).trans he5⟩
     · obtain rfl : k = acts.length := by omega
       have r1 : ¬ (acts.length : Int) < (acts.length : Int) := by omega
       rw [List.take_length] at HP2
       obtain rfl : res = true := by rw [HR.out, HP2.out]
       clear hk hkl hext
       go_wp2
       go_ret
       exact ⟨rfl, HX4.out.trans HEQ.out⟩
end Go.Proofs.YtpmpjjhchkoboaaGreatDoor
