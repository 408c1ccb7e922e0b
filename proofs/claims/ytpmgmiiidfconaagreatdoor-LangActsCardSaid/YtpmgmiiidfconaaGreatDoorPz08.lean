/-
  GrCheck, Copy, packed: what the claim needs of them.
-/
import Derived.Test.YtpmgmiiidfconaaGreatDoorPz07
import Derived.Test.YtpmgmiiidfconaaGreatDoorPz02
import Derived.Laws.CopyOwn
namespace Go.Ox.Gr
/-- a node that stands somewhere; lb: whether its body's list may be -/
def nodeB (loop : Int) (lb : Bool) (n : Nd) (i : Nat) : Bool := base n i && (fnOk n && (numOk n loop && (if n.op = 9 then lb else n.body.isEmpty)))
theorem nodeB_in (loop : Nat) (lb : Bool) (n : Nd) (i : Nat) : nodeB loop lb n i = inOk loop n i := by
  unfold nodeB inOk
  by_cases h : n.op = 9
  · have e : numOk n loop = false := by
      unfold numOk
      rw [if_neg (by omega), if_pos h, decide_eq_false (by omega), Bool.false_and]
    rw [e]; simp
  · rw [if_neg h]
end Go.Ox.Gr
namespace Go.Proofs.YtpmgmiiidfconaaGreatDoor
open Go.RowKit Go.Ox Go.Ox.Gr
set_option linter.unusedVariables false
set_option linter.unusedSimpArgs false
attribute [local irreducible] RE NodesR
def ahB (i a : Int) : Bool := decide (0 ≤ i) && decide (i < a)
set_option maxRecDepth 100000 in
set_option maxHeartbeats 400000 in
theorem ahead_any (i a : Int) (p : Nat) (w : World) (hc : w.cell? ⟨p, 0, none⟩ = some (.int .i64 a)) :
    Calls Tryz.prog 136 #[.int .i64 i, .pointer (some ⟨p, 0, none⟩)] w fun e w' => e = .returned (.bool (ahB i a)) ∧ w = w' := by
  unfold ahB
  by_cases h : 0 ≤ i
  · rw [decide_eq_true h, Bool.true_and]
    go_enter Tryz.func136, Tryz.ntmps136
    go_wp2
    go_ret
    exact ⟨rfl, rfl⟩
  · rw [decide_eq_false h, Bool.false_and]
    go_enter Tryz.func136, Tryz.ntmps136
    go_wp2
    go_ret
    exact ⟨rfl, rfl⟩
set_option maxRecDepth 100000 in
set_option maxHeartbeats 400000 in
theorem notAhead_any (i a : Int) (p q : Nat) (w : World) (hc : w.cell? ⟨p, 0, none⟩ = some (.int .i64 a)) (hf : w.cell? ⟨q, 0, none⟩ = some (.func (.func 136) #[] #[.pointer (some ⟨p, 0, none⟩)])) :
    Calls Tryz.prog 137 #[.int .i64 i, .pointer (some ⟨q, 0, none⟩)] w fun e w' => e = .returned (.bool (!ahB i a)) ∧ Ext w w' := by
  have HA := Lib.hid (ahead_any i a p w hc)
  clear hc
  generalize ahB i a = x at *
  go_enter Tryz.func137, Tryz.ntmps137
  go_wp2_with fail
  refine HA.out.mono ?_
  rintro e w1 ⟨rfl, rfl⟩
  go_wp2
  go_ret
  exact ⟨rfl, Ext.refl _⟩
theorem insOk_any (ins : List Int) (i : Nat) : insOk ins i = !anyI (fun x => !ahB x i) ins := by
  unfold insOk anyI ahB
  rw [List.not_any_eq_all_not]
  simp
set_option maxRecDepth 100000 in
set_option maxHeartbeats 8000000 in
theorem node_gen (op kind fa a loop : Int) (u b : Value) (ins : List Int) (body : List Nd) (d at_ : Nat) (lb : Bool) (w : World) (hl : loop = -1 ∨ 0 ≤ loop) (hu : RE w u ins) (hb : NodesR d w b body)
    (hli : op = 9 → numB op a loop = true → ∀ W, Ext w W → Calls Tryz.prog 88 #[b, .int .i64 (at_ : Int)] W fun e W' => e = .returned (.bool lb) ∧ Ext W W') :
    Calls Tryz.prog 114 #[ndAg op kind fa a u b, .int .i64 (at_ : Int), .int .i64 loop] w fun e w' => e = .returned (.bool (nodeB loop lb (.mk op ins kind fa a body) at_)) ∧ Ext w w' := by
  have HR := Lib.hid (show nodeB loop lb (.mk op ins kind fa a body) at_ = ((opOk op && (decide ((ins.length : Int) = arity op) && !anyI (fun x => !ahB x at_) ins)) && (fnB (fmly op) kind fa && (numB op a loop && (if op = 9 then lb else body.isEmpty)))) by
    unfold nodeB base
    rw [insOk_any, fnB_eq, numB_eq]; rfl)
  have HAR := Lib.hid (arity_range op)
  have HNE := Lib.hid (fun w => needs_any op w)
  have HFU := Lib.hid (fun w => function_any op kind fa a (fmly op) u b w)
  have HNU := Lib.hid (fun w => number_any op kind fa a loop u b w hl)
  have eg2 : ∀ args w, (callFunc 137 args).run Tryz.prog w = .ok (.enter 137 args) w := enters_of Tryz.func137 (by kernel_rfl) rfl
  have HCO := Lib.hid (fun (q p : Nat) (W : World) (h0 : RE W u ins) (hl : ins.length ≤ 1000000000) (hc : W.cell? ⟨p, 0, none⟩ = some (.int .i64 (at_ : Int))) (hf : W.cell? ⟨q, 0, none⟩ = some (.func (.func 136) #[] #[.pointer (some ⟨p, 0, none⟩)])) =>
    containsI_any (fun x => !ahB x at_) 137 #[.pointer (some ⟨q, 0, none⟩)] eg2 u ins W h0 hl (fun x W' he => notAhead_any x at_ p q W' (he.cell hc) (he.cell hf)))
  have HLI := Lib.hid hli
  have HX0 := Lib.hid (((Ext.refl w).alloc (ndCs op kind fa a u b)).alloc (.cells #[.int .i64 (at_ : Int)] 3))
  have HB0 := Lib.hid ((Bx6.new w 57 (.int .i64 op) u (.int .i64 kind) (.int .i64 fa) (.int .i64 a) b).ext ((Ext.refl _).alloc (.cells #[.int .i64 (at_ : Int)] 3)))
  have HA0 := Lib.hid (Blk.new (w.alloc (ndCs op kind fa a u b)) 3 #[.int .i64 (at_ : Int)])
  have HU := Lib.hid hu
  have HB := Lib.hid hb
  obtain ⟨Au, cu, rfl⟩ := hu.form
  obtain ⟨Ab, cb, rfl⟩ := hb.form
  clear hu hb hli eg2 hl
  generalize nodeB loop lb (.mk op ins kind fa a body) at_ = R at *
  generalize arity op = ar at *
  generalize fmly op = fm at *
  generalize opOk op = ok at *
  generalize fnB fm kind fa = fb at *
  generalize anyI (fun x => !ahB x at_) ins = an at *
  generalize hnb : numB op a loop = nb at *
  have HNB := Lib.hid hnb
  clear hnb
  go_enter Tryz.func114, Tryz.ntmps114
  go_upto_region 1 with fail
  obtain ⟨p, hp⟩ : ∃ p, p = w.heap.size := ⟨_, rfl⟩
  have hq : (w.alloc (ndCs op kind fa a (.slice Au ins.length cu) (.slice Ab body.length cb))).heap.size = p + 1 := by rw [hp]; simp
  rw [hq] at HA0
  rw [← hp] at HB0 ⊢
  clear hp hq
  generalize (w.alloc (ndCs op kind fa a (.slice Au ins.length cu) (.slice Ab body.length cb))).alloc (.cells #[.int .i64 (at_ : Int)] 3) = w0 at *
  obtain ⟨c0, c1, c2, c3, c4, c5⟩ := HB0.out.at_
  go_wp2_with fail
  refine (HNE.out _).mono ?_
  rintro e w1 ⟨rfl, he1⟩
  clear c0 c1 c2 c3 c4 c5
  have hx2 := ((Ext.refl w1).alloc (.cells #[.int .i64 ar, .int .i64 fm] 149)).alloc (.cells #[.func (.func 136) #[] #[.pointer (some ⟨p + 1, 0, none⟩)]] 101)
  have HX2 := Lib.hid ((HX0.out.trans he1).trans hx2)
  have HB2 := Lib.hid ((HB0.out.ext he1).ext hx2)
  have HA2 := Lib.hid ((HA0.out.ext he1).ext hx2)
  have HN2 := Lib.hid ((Blk.new w1 149 #[.int .i64 ar, .int .i64 fm]).ext ((Ext.refl _).alloc (.cells #[.func (.func 136) #[] #[.pointer (some ⟨p + 1, 0, none⟩)]] 101)))
  have HF2 := Lib.hid (Blk.new (w1.alloc (.cells #[.int .i64 ar, .int .i64 fm] 149)) 101 #[.func (.func 136) #[] #[.pointer (some ⟨p + 1, 0, none⟩)]])
  obtain ⟨q, hq⟩ : ∃ q, q = w1.heap.size := ⟨_, rfl⟩
  have hq2 : (w1.alloc (.cells #[.int .i64 ar, .int .i64 fm] 149)).heap.size = q + 1 := by rw [hq]; simp
  rw [hq2] at HF2
  clear hx2
  have hsf : ∀ (a : Addr) (g : Fn) (pre cap : Array Value) (w' : World), (store a (.func g pre cap)).run Tryz.prog w' = stored Tryz.prog w' a (.func g pre cap) .plain := fun a g pre cap w' => run_store Tryz.prog w' a _ _ rfl
  go_upto_region 3 with fail
  clear hsf
  try rw [← hq]
  rw [← hq] at HN2
  try rw [hq2]
  clear hq hq2 he1 HB0 HA0 HX0
  generalize (w1.alloc (.cells #[.int .i64 ar, .int .i64 fm] 149)).alloc (.cells #[.func (.func 136) #[] #[.pointer (some ⟨p + 1, 0, none⟩)]] 101) = w2 at *
  obtain ⟨c0, c1, c2, c3, c4, c5⟩ := HB2.out.at_
  have y0 : w2.cell? ⟨q, 0, none⟩ = some (.int .i64 ar) := HN2.out.cell 0
  have y1 : w2.cell? ⟨q, 1, none⟩ = some (.int .i64 fm) := HN2.out.cell 1
  cases ok with
  | false =>
    have HE := Lib.hid (show R = false by rw [HR.out]; rfl)
    go_wp2
    go_ret
    exact ⟨by rw [HE.out]; rfl, HX2.out⟩
  | true =>
    by_cases hlen : (ins.length : Int) = ar
    · have HIL := Lib.hid (show ins.length ≤ 1000000000 by have := HAR.out; omega)
      rw [decide_eq_true hlen] at HR
      have hbn : ((ins.length : Int) != ar) = false := by simpa using hlen
      clear hlen
      go_wp2_with fail
      refine (HCO.out (q + 1) (p + 1) _ (HU.out.ext HX2.out) HIL.out (HA2.out.cell 0) (HF2.out.cell 0)).mono ?_
      rintro e w3 ⟨rfl, he3⟩
      have HX3 := Lib.hid (HX2.out.trans he3)
      have HB3 := Lib.hid (HB2.out.ext he3)
      have HA3 := Lib.hid (HA2.out.ext he3)
      have y1 := he3.cell y1
      clear he3 c0 c1 c2 c3 c4 c5 y0 HB2 HA2
      obtain ⟨c0, c1, c2, c3, c4, c5⟩ := HB3.out.at_
      cases an with
      | true =>
        have HE := Lib.hid (show R = false by rw [HR.out]; rfl)
        go_wp2
        go_ret
        exact ⟨by rw [HE.out]; rfl, HX3.out⟩
      | false =>
        go_wp2_with fail
        refine (HFU.out _).mono ?_
        rintro e w4 ⟨rfl, he4⟩
        have HX4 := Lib.hid (HX3.out.trans he4)
        have HB4 := Lib.hid (HB3.out.ext he4)
        have HA4 := Lib.hid (HA3.out.ext he4)
        clear he4 c0 c1 c2 c3 c4 c5 y1 HB3 HA3
        obtain ⟨c0, c1, c2, c3, c4, c5⟩ := HB4.out.at_
        cases fb with
        | false =>
          have HE := Lib.hid (show R = false by rw [HR.out]; rfl)
          go_wp2
          go_ret
          exact ⟨by rw [HE.out]; rfl, HX4.out⟩
        | true =>
          go_wp2_with fail
          refine (HNU.out _).mono ?_
          rintro e w5 ⟨rfl, he5⟩
          have HX5 := Lib.hid (HX4.out.trans he5)
          have HB5 := Lib.hid (HB4.out.ext he5)
          have HA5 := Lib.hid (HA4.out.ext he5)
          clear he5 c0 c1 c2 c3 c4 c5 HB4 HA4
          obtain ⟨c0, c1, c2, c3, c4, c5⟩ := HB5.out.at_
          cases nb with
          | false =>
            have HE := Lib.hid (show R = false by rw [HR.out]; rfl)
            go_wp2
            go_ret
            exact ⟨by rw [HE.out]; rfl, HX5.out⟩
          | true =>
            by_cases h9 : op = 9
            · have HE := Lib.hid (show R = lb by rw [HR.out, if_pos h9]; rfl)
              have HL := Lib.hid (HLI.out h9 rfl _ HX5.out)
              have y0 : w5.cell? ⟨p + 1, 0, none⟩ = some (.int .i64 (at_ : Int)) := HA5.out.cell 0
              subst h9
              go_wp2_with fail
              refine HL.out.mono ?_
              rintro e w6 ⟨rfl, he6⟩
              go_wp2
              go_ret
              exact ⟨by rw [HE.out]; rfl, HX5.out.trans he6⟩
            · have HE := Lib.hid (show R = body.isEmpty by rw [HR.out, if_neg h9]; rfl)
              have hb9 : (op != 9) = true := by simpa using h9
              cases body with
              | nil =>
                go_wp2
                go_ret
                exact ⟨by rw [HE.out]; rfl, HX5.out⟩
              | cons x l =>
                have hb0 : (((x :: l).length : Int) == 0) = false := by simp; omega
                generalize (x :: l).length = n9 at *
                go_wp2
                go_ret
                exact ⟨by rw [HE.out]; simp, HX5.out⟩
    · have HE := Lib.hid (show R = false by rw [HR.out, decide_eq_false hlen]; rfl)
      have hbn : ((ins.length : Int) != ar) = true := by simpa using hlen
      clear hlen
      go_wp2
      go_ret
      exact ⟨by rw [HE.out]; rfl, HX2.out⟩
set_option maxRecDepth 100000 in
set_option maxHeartbeats 8000000 in
theorem list_gen (loop : Int) (f : Nd → Nat → Bool) (d : Nat) (v : Value) (l : List Nd) (w : World) (hv : NodesR d w v l)
    (hn : ∀ (i : Nat) (hi : i < l.length) (u b : Value) (W : World), RE W u l[i].ins → NodesR (d - 1) W b l[i].body → l.length ≤ 32 →
      Calls Tryz.prog 114 #[ndAg l[i].op l[i].kind l[i].fa l[i].a u b, .int .i64 (i : Int), .int .i64 loop] W fun e W' => e = .returned (.bool (f l[i] i)) ∧ Ext W W') :
    Calls Tryz.prog 88 #[v, .int .i64 loop] w fun e w' => e = .returned (.bool (decide (1 ≤ l.length) && (decide (l.length ≤ 32) && each f l 0))) ∧ Ext w w' := by
  obtain ⟨A, c, rfl⟩ := hv.form
  have HV := Lib.hid hv
  have HN := Lib.hid hn
  clear hv hn
  by_cases h1 : 1 ≤ l.length
  · by_cases h2 : l.length ≤ 32
    · rw [decide_eq_true h1, decide_eq_true h2, Bool.true_and, Bool.true_and]
      have g1 : ¬ (l.length : Int) < 1 := by omega
      have g2 : ¬ (32 : Int) < (l.length : Int) := by omega
      have H2 := Lib.hid h2
      clear h1 h2
      go_enter Tryz.func88, Tryz.ntmps88
      go_wp2
      go_loopw [17] (fun iv wr => ∃ k : Nat, k ≤ l.length ∧ iv = .int .i64 (k : Int) ∧ each f (l.take k) 0 = true ∧ Ext w wr) (fun iv _ => l.length - (intOf iv).toNat)
      case atStart => exact ⟨0, Nat.zero_le _, rfl, rfl, Ext.refl _⟩
      case round =>
        obtain ⟨k, hk, rfl, hp, hext⟩ := hrel
        have HP := Lib.hid hp
        have HE := Lib.hid hext
        clear hp
        by_cases hlt : k < l.length
        · have q1 : (k : Int) < (l.length : Int) := by omega
          have q0 : 0 ≤ (k : Int) := by omega
          have q1n : k < l.length := hlt
          have HLT := Lib.hid hlt
          have hk32 : k ≤ 32 := by have := H2.out; omega
          obtain ⟨bA, oA, u, bv, rfl, c0, c1, c2, c3, c4, c5, hu, hbv⟩ := (HV.out.ext hext).at_ hlt
          have HS := Lib.hid (each_s f l hlt)
          have HNO := Lib.hid (each_no f l hlt)
          have HNX := Lib.hid (fun W he => HN.out k hlt u bv W (RE.ext hu he) (hbv.ext he) H2.out)
          generalize l[k] = x at *
          obtain ⟨op, ins, kind, fa, a, body⟩ := x
          simp only [Nd.op, Nd.kind, Nd.fa, Nd.a, Nd.ins, Nd.body] at c0 c1 c2 c3 c4 c5 hu hbv HNX
          obtain ⟨Au, cu, rfl⟩ := hu.form
          obtain ⟨Ab, cb, rfl⟩ := hbv.form
          have hxn := (Ext.refl wr).alloc (ndCs op kind fa a (.slice Au ins.length cu) (.slice Ab body.length cb))
          have HXN := Lib.hid hxn
          have HXE := Lib.hid (hext.trans hxn)
          have HC := Lib.hid (HNX.out _ hxn)
          obtain ⟨y0, y1, y2, y3, y4, y5⟩ := (Bx6.new wr 57 (.int .i64 op) (.slice Au ins.length cu) (.int .i64 kind) (.int .i64 fa) (.int .i64 a) (.slice Ab body.length cb)).at_
          clear hext hlt hk hxn hu hbv
          rw [HP.out, Bool.true_and] at HS
          generalize f (.mk op ins kind fa a body) k = r at *
          go_upto_region 6 with fail
          clear c0 c1 c2 c3 c4 c5
          go_wp2_with fail
          refine HC.out.mono ?_
          rintro e w2 ⟨rfl, he2⟩
          have HX2 := Lib.hid (HXE.out.trans he2)
          clear he2 y0 y1 y2 y3 y4 y5
          cases r with
          | true =>
            go_wp2
            exact ⟨⟨k + 1, HLT.out, by go_num, HS.out, HX2.out⟩, by have := HLT.out; simp [intOf]; omega⟩
          | false =>
            have HF := Lib.hid (HNO.out rfl)
            go_wp2
            go_ret
            exact ⟨by rw [HF.out]; rfl, HX2.out⟩
        · obtain rfl : k = l.length := by omega
          have q1 : ¬ (l.length : Int) < (l.length : Int) := by omega
          rw [List.take_length] at HP
          clear hext
          go_wp2
          go_ret
          exact ⟨by rw [HP.out]; rfl, HE.out⟩
    · rw [decide_eq_false h2, Bool.false_and, Bool.and_false]
      have g1 : ¬ (l.length : Int) < 1 := by omega
      have g2 : (32 : Int) < (l.length : Int) := by omega
      clear h1 h2
      go_enter Tryz.func88, Tryz.ntmps88
      go_wp2
      go_ret
      exact ⟨rfl, Ext.refl _⟩
  · rw [decide_eq_false h1, Bool.false_and]
    have g1 : (l.length : Int) < 1 := by omega
    clear h1
    go_enter Tryz.func88, Tryz.ntmps88
    go_wp2
    go_ret
    exact ⟨rfl, Ext.refl _⟩
theorem listIn_any (loop : Nat) (d : Nat) (v : Value) (l : List Nd) (w : World) (hv : NodesR d w v l) :
    Calls Tryz.prog 88 #[v, .int .i64 (loop : Int)] w fun e w' => e = .returned (.bool (bodyOk l loop)) ∧ Ext w w' := by
  refine list_gen (loop : Int) (inOk loop) d v l w hv fun i hi u b W hu hb _ => ?_
  have h := node_gen l[i].op l[i].kind l[i].fa l[i].a (loop : Int) u b l[i].ins l[i].body (d - 1) i false W (.inr (by omega)) hu hb (fun h9 hn => by
    rw [h9] at hn
    unfold numB at hn
    rw [if_neg (by omega), if_pos rfl, decide_eq_false (by omega), Bool.false_and] at hn
    cases hn)
  rw [nodeB_in] at h
  cases hx : l[i] with
  | mk op ins kind fa a body => rw [hx] at h; exact h
theorem listOut_any (d : Nat) (v : Value) (l : List Nd) (w : World) (hv : NodesR d w v l) :
    Calls Tryz.prog 88 #[v, .int .i64 (-1)] w fun e w' => e = .returned (.bool (listOk l)) ∧ Ext w w' := by
  refine list_gen (-1) outOk d v l w hv fun i hi u b W hu hb _ => ?_
  have h := node_gen l[i].op l[i].kind l[i].fa l[i].a (-1) u b l[i].ins l[i].body (d - 1) i (bodyOk l[i].body i) W (.inl rfl) hu hb (fun _ _ W' he => listIn_any i (d - 1) b l[i].body W' (hb.ext he))
  cases hx : l[i] with
  | mk op ins kind fa a body => rw [hx] at h; exact h
end Go.Proofs.YtpmgmiiidfconaaGreatDoor
namespace Go.Proofs.YtpmgmiiidfconaaGreatDoor
open Go.RowKit Go.Ox Go.Ox.Gr
set_option linter.unusedVariables false
set_option linter.unusedSimpArgs false
attribute [local irreducible] RE NodesR
abbrev gAg (v : Value) (out : Int) : Value := .agg #[v, .int .i64 out]
abbrev gCs (v : Value) (out : Int) : Obj := .cells #[v, .int .i64 out] 39
set_option maxRecDepth 100000 in
set_option maxHeartbeats 2000000 in
theorem loops_any (d : Nat) (v : Value) (l : List Nd) (out : Int) (w : World) (hv : NodesR d w v l) (hl : l.length ≤ 1000000) :
    Calls Tryz.prog 89 #[gAg v out] w fun e w' => e = .returned (.int .i64 (loops l : Int)) ∧ Ext w w' := by
  obtain ⟨A, c, rfl⟩ := hv.form
  have HX0 := Lib.hid ((Ext.refl w).alloc (gCs (.slice A l.length c) out))
  have HB0 := Lib.hid (Blk.new w 39 #[.slice A l.length c, .int .i64 out])
  have HV := Lib.hid (hv.ext HX0.out)
  clear hv
  go_enter Tryz.func89, Tryz.ntmps89
  go_upto_region 1 with fail
  generalize w.heap.size = p at *
  generalize w.alloc (gCs (.slice A l.length c) out) = w0 at *
  have c0 : w0.cell? ⟨p, 0, none⟩ = some (.slice A l.length c) := HB0.out.cell 0
  go_wp2
  clear c0
  go_loopw [3, 9] (fun o iv wr => ∃ k : Nat, k ≤ l.length ∧ iv = .int .i64 (k : Int) ∧ o = .int .i64 (loops (l.take k) : Int) ∧ Ext w0 wr) (fun _ iv _ => l.length - (intOf iv).toNat)
  case atStart => exact ⟨0, Nat.zero_le _, rfl, rfl, Ext.refl _⟩
  case round =>
    obtain ⟨k, hk, rfl, rfl, hext⟩ := hrel
    have HE := Lib.hid hext
    have hll := loops_le l k
    by_cases hlt : k < l.length
    · have q1 : (k : Int) < (l.length : Int) := by omega
      have q0 : 0 ≤ (k : Int) := by omega
      have q1n : k < l.length := hlt
      have HLT := Lib.hid hlt
      obtain ⟨bA, oA, u, bv, rfl, c0, c1, c2, c3, c4, c5, hu, hbv⟩ := (HV.out.ext hext).at_ hlt
      have HS := Lib.hid (loops_s l hlt)
      obtain ⟨n, hn⟩ : ∃ n, n = loops (l.take k) := ⟨_, rfl⟩
      rw [← hn] at HS hll ⊢
      have HN := Lib.hid hn
      generalize l[k] = x at *
      obtain ⟨op, ins, kind, fa, a, body⟩ := x
      simp only [Nd.op, Nd.kind, Nd.fa, Nd.a, Nd.ins, Nd.body] at c0 c1 c2 c3 c4 c5 hu hbv
      replace HS := Lib.hid (show loops (l.take (k + 1)) = n + (if op = 9 then 1 else 0) from HS.out)
      obtain ⟨Au, cu, rfl⟩ := hu.form
      obtain ⟨Ab, cb, rfl⟩ := hbv.form
      have hxn := (Ext.refl wr).alloc (ndCs op kind fa a (.slice Au ins.length cu) (.slice Ab body.length cb))
      have HXE := Lib.hid (hext.trans hxn)
      obtain ⟨y0, y1, y2, y3, y4, y5⟩ := (Bx6.new wr 57 (.int .i64 op) (.slice Au ins.length cu) (.int .i64 kind) (.int .i64 fa) (.int .i64 a) (.slice Ab body.length cb)).at_
      clear hext hlt hk hxn hu hbv hn
      by_cases h9 : op = 9
      · rw [if_pos h9] at HS
        subst h9
        go_wp2
        exact ⟨⟨k + 1, HLT.out, by go_num, by rw [HS.out]; go_num, HXE.out⟩, by have := HLT.out; simp [intOf]; omega⟩
      · rw [if_neg h9] at HS
        go_wp2
        exact ⟨⟨k + 1, HLT.out, by go_num, by rw [HS.out]; rfl, HXE.out⟩, by have := HLT.out; simp [intOf]; omega⟩
    · obtain rfl : k = l.length := by omega
      have q1 : ¬ (l.length : Int) < (l.length : Int) := by omega
      rw [List.take_length]
      clear hext hll
      generalize hn : loops l = n at *
      have HN := Lib.hid hn
      clear hn
      go_wp2
      go_ret
      exact ⟨by rw [HN.out]; rfl, HX0.out.trans HE.out⟩
/-- what is wrong with a graph -/
def gE (g : G) : Int := if gOk g = true then 0 else 170
set_option maxRecDepth 100000 in
set_option maxHeartbeats 2000000 in
theorem gCheck_any (d : Nat) (v : Value) (l : List Nd) (out : Int) (w : World) (hv : NodesR d w v l) :
    Calls Tryz.prog 56 #[gAg v out] w fun e w' => e = .returned (.int .i64 (gE (l, out))) ∧ Ext w w' := by
  obtain ⟨A, c, rfl⟩ := hv.form
  have HX0 := Lib.hid ((Ext.refl w).alloc (gCs (.slice A l.length c) out))
  have HB0 := Lib.hid (Blk.new w 39 #[.slice A l.length c, .int .i64 out])
  have HV := Lib.hid (hv.ext HX0.out)
  have HLI := Lib.hid (fun w h => listOut_any d (.slice A l.length c) l w h)
  have HLO := Lib.hid (fun w h hl => loops_any d (.slice A l.length c) l out w h hl)
  have HG := Lib.hid (show gE (l, out) = if (listOk l && (decide (0 ≤ out) && (decide (out < (l.length : Int)) && decide (loops l ≤ 1)))) = true then 0 else 170 from rfl)
  have H32 := Lib.hid (show listOk l = true → l.length ≤ 1000000 from fun h => by
    unfold listOk at h
    rw [Bool.and_eq_true, Bool.and_eq_true, decide_eq_true_eq, decide_eq_true_eq] at h
    omega)
  generalize gE (l, out) = E at *
  generalize listOk l = lk at *
  generalize loops l = lp at *
  clear hv
  go_enter Tryz.func56, Tryz.ntmps56
  go_upto_region 1 with fail
  generalize w.heap.size = p at *
  generalize w.alloc (gCs (.slice A l.length c) out) = w0 at *
  have c0 : w0.cell? ⟨p, 0, none⟩ = some (.slice A l.length c) := HB0.out.cell 0
  go_wp2_with fail
  refine (HLI.out _ HV.out).mono ?_
  rintro e w1 ⟨rfl, he1⟩
  have HX1 := Lib.hid (HX0.out.trans he1)
  have HB1 := Lib.hid (HB0.out.ext he1)
  have HV1 := Lib.hid (HV.out.ext he1)
  clear he1 c0
  have c0 : w1.cell? ⟨p, 0, none⟩ = some (.slice A l.length c) := HB1.out.cell 0
  have c1 : w1.cell? ⟨p, 1, none⟩ = some (.int .i64 out) := HB1.out.cell 1
  cases lk with
  | false =>
    have HE := Lib.hid (show E = 170 by rw [HG.out]; rfl)
    go_wp2_with fail
    go_ret
    exact ⟨by rw [HE.out]; rfl, HX1.out⟩
  | true =>
    have H32b := Lib.hid (H32.out rfl)
    by_cases h0 : out < 0
    · have HE := Lib.hid (show E = 170 by rw [HG.out, decide_eq_false (show ¬ 0 ≤ out by omega)]; rfl)
      go_wp2_with fail
      go_ret
      exact ⟨by rw [HE.out]; rfl, HX1.out⟩
    by_cases h1 : (l.length : Int) ≤ out
    · have HE := Lib.hid (show E = 170 by rw [HG.out, decide_eq_false (show ¬ out < (l.length : Int) by omega)]; simp)
      go_wp2_with fail
      go_ret
      exact ⟨by rw [HE.out]; rfl, HX1.out⟩
    rw [decide_eq_true (show 0 ≤ out by omega), decide_eq_true (show out < (l.length : Int) by omega)] at HG
    go_wp2_with fail
    refine (HLO.out _ HV1.out H32b.out).mono ?_
    rintro e w2 ⟨rfl, he2⟩
    have HX2 := Lib.hid (HX1.out.trans he2)
    clear he2 c0 c1
    by_cases h2 : lp ≤ 1
    · have HE := Lib.hid (show E = 0 by rw [HG.out, decide_eq_true h2]; rfl)
      have q : ¬ (1 : Int) < (lp : Int) := by omega
      clear h2
      go_wp2
      go_ret
      exact ⟨by rw [HE.out]; rfl, HX2.out⟩
    · have HE := Lib.hid (show E = 170 by rw [HG.out, decide_eq_false h2]; rfl)
      have q : (1 : Int) < (lp : Int) := by omega
      clear h2
      go_wp2
      go_ret
      exact ⟨by rw [HE.out]; rfl, HX2.out⟩
set_option maxRecDepth 100000 in
set_option maxHeartbeats 400000 in
theorem gArity_any (k : Int) (w : World) : Calls Tryz.prog 76 #[.int .i64 k] w fun e w' => e = .returned (.int .i64 (arity k)) ∧ Ext w w' := by
  have HN := Lib.hid (fun w => needs_any k w)
  generalize arity k = r1 at *
  generalize fmly k = r2 at *
  generalize opOk k = is at *
  go_enter Tryz.func76, Tryz.ntmps76
  go_wp2_with fail
  refine (HN.out _).mono ?_
  rintro e w1 ⟨rfl, he1⟩
  have HX := Lib.hid (he1.alloc (.cells #[.int .i64 r1, .int .i64 r2] 149))
  clear he1
  go_wp2
  go_ret
  exact ⟨rfl, HX.out⟩
end Go.Proofs.YtpmgmiiidfconaaGreatDoor
namespace Go.Ox
open Go.RowKit
section
variable {P : Program} {t e : TypeId} {z : Value} {bytes : Nat}
theorem OB.nilO (w : World) (E base : Nat) : OB E base w (.slice none 0 0) [] := World.ownsRow_nil _ _ _ _
theorem RB.lit1 (w : World) (E : Nat) (u : Value) (b : UInt8) (h : byteV b = u) : RB (w.alloc (.cells #[u] E)) (.slice (some ⟨w.heap.size, 0, none⟩) 1 1) [b] :=
  RB.lit w #[u] E [b] 1 rfl (by omega) (by simp [h])
end
end Go.Ox
