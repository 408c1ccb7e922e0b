/-
  GrRef, packed: what the claim needs of them.
-/
import Derived.Test.YtcacicgkebcdkaaPe41
import Derived.Test.YtcacicgkebcdkaaPe42
import Derived.Test.YtcacicgkebcdkaaPe43
set_option linter.unusedSimpArgs false
set_option linter.unusedVariables false
set_option maxRecDepth 100000
namespace Go.Proofs.Ytcacicgkebcdkaa
open Go.RowKit Go.Ox Go.Ox.Gr
theorem rnode_gen (op kind fa a loop : Int) (u b : Value) (ins : List Int) (body : List Nd) (d at_ : Nat) (lb : Bool) (w : World) (hl : loop = -1 ∨ 0 ≤ loop) (hu : RE w u ins) (hb : NodesR d w b body)
    (hli : op = 9 → numB op a loop = true → ∀ W, Ext w W → Calls Try.prog 65 #[b, .int .i64 (at_ : Int)] W fun e W' => e = .returned (.bool lb) ∧ Ext W W') :
    Calls Try.prog 39 #[ndAg op kind fa a u b, .int .i64 (at_ : Int), .int .i64 loop] w fun e w' => e = .returned (.bool (nodeB loop lb (.mk op ins kind fa a body) at_)) ∧ Ext w w' := by
  by_cases o1 : op < 1
  · exact rn_no op kind fa a loop u b ins body d at_ lb w hl hu hb hli (.inl o1)
  by_cases o2 : 11 < op
  · exact rn_no op kind fa a loop u b ins body d at_ lb w hl hu hb hli (.inr (.inl ⟨o1, o2⟩))
  by_cases k3 : (ins.length : Int) = arity op
  case neg => exact rn_no op kind fa a loop u b ins body d at_ lb w hl hu hb hli (.inr (.inr ⟨o1, o2, k3⟩))
  have k1 : 1 ≤ op := by omega
  have k2 : op ≤ 11 := by omega
  by_cases kf : fmly op = 0
  case neg => exact rn_f op kind fa a loop u b ins body d at_ lb w hl hu hb hli k1 k2 k3 kf
  by_cases q1 : kind = 0
  case neg => exact rn_a op kind fa a loop u b ins body d at_ lb w hl hu hb hli k1 k2 k3 kf (.inl q1)
  by_cases q2 : fa = 0
  case neg => exact rn_a op kind fa a loop u b ins body d at_ lb w hl hu hb hli k1 k2 k3 kf (.inr (.inl ⟨q1, q2⟩))
  by_cases q3 : op = 9
  · exact rn_a op kind fa a loop u b ins body d at_ lb w hl hu hb hli k1 k2 k3 kf (.inr (.inr ⟨q1, q2, q3⟩))
  exact rn_p op kind fa a loop u b ins body d at_ lb w hl hu hb hli k1 k2 k3 kf q3 q1 q2
end Go.Proofs.Ytcacicgkebcdkaa
namespace Go.Proofs.Ytcacicgkebcdkaa
open Go.RowKit Go.Ox Go.Ox.Gr
attribute [local irreducible] RE NodesR
theorem rnode_at (loop : Int) (lb : Nd → Nat → Bool) (n : Nd) (i d : Nat) (u b : Value) (w : World) (hl : loop = -1 ∨ 0 ≤ loop) (hu : RE w u n.ins) (hb : NodesR d w b n.body)
    (hli : n.op = 9 → numOk n loop = true → ∀ W, Ext w W → Calls Try.prog 65 #[b, .int .i64 (i : Int)] W fun e W' => e = .returned (.bool (lb n i)) ∧ Ext W W') :
    Calls Try.prog 39 #[ndAg n.op n.kind n.fa n.a u b, .int .i64 (i : Int), .int .i64 loop] w fun e w' => e = .returned (.bool (nodeB loop (lb n i) n i)) ∧ Ext w w' := by
  cases n with
  | mk op ins kind fa a body => exact rnode_gen op kind fa a loop u b ins body d i (lb (.mk op ins kind fa a body) i) w hl hu hb hli
theorem numIn_9 {n : Nd} {loop : Nat} (h : n.op = 9) : numOk n (loop : Int) = true → False := by
  unfold numOk
  rw [if_neg (by omega), if_pos h, decide_eq_false (by omega), Bool.false_and]
  intro h; cases h
set_option maxHeartbeats 4000000 in
theorem rbody_any (loop : Nat) (d : Nat) (v : Value) (l : List Nd) (w : World) (hv : NodesR d w v l) :
    Calls Try.prog 65 #[v, .int .i64 (loop : Int)] w fun e w' => e = .returned (.bool (bodyOk l loop)) ∧ Ext w w' := by
  obtain ⟨A, c, rfl⟩ := hv.form
  have HV := Lib.hid hv
  clear hv
  unfold bodyOk
  by_cases h1 : 1 ≤ l.length
  · by_cases h2 : l.length ≤ 32
    · rw [decide_eq_true h1, decide_eq_true h2, Bool.true_and, Bool.true_and]
      have g1 : ¬ (l.length : Int) < 1 := by omega
      have g2 : ¬ (32 : Int) < (l.length : Int) := by omega
      have H2 := Lib.hid h2
      clear h1 h2
      go_enter Try.func65, Try.ntmps65
      go_wp2
      go_loopw [5] (fun iv wr => ∃ k : Nat, k ≤ l.length ∧ iv = .int .i64 (k : Int) ∧ each (inOk loop) (l.take k) 0 = true ∧ Ext w wr) (fun iv _ => l.length - (intOf iv).toNat)
      case atStart => exact ⟨0, Nat.zero_le _, rfl, rfl, Ext.refl _⟩
      case round =>
        obtain ⟨k, hk, rfl, hp, hext⟩ := hrel
        have HP := Lib.hid hp
        have HE := Lib.hid hext
        clear hp
        by_cases hlt : k < l.length
        · have q1 : (k : Int) < (l.length : Int) := by omega
          have q0 : 0 ≤ (k : Int) := by omega
          have q1n : k < l.length := hlt
          have HLT := Lib.hid hlt
          have hk32 : k ≤ 32 := by have := H2.out; omega
          obtain ⟨bA, oA, u, bv, rfl, c0, c1, c2, c3, c4, c5, hu, hbv⟩ := (HV.out.ext hext).at_ hlt
          have HS := Lib.hid (each_s (inOk loop) l hlt)
          have HNO := Lib.hid (each_no (inOk loop) l hlt)
          have HC := rnode_at (loop : Int) (fun _ _ => false) l[k] k _ u bv wr (.inr (by omega)) hu hbv (fun h9 hn => (numIn_9 h9 hn).elim)
          rw [nodeB_in] at HC
          have HC := Lib.hid HC
          generalize inOk loop l[k] k = r at *
          generalize l[k] = x at *
          obtain ⟨op, ins, kind, fa, a, body⟩ := x
          simp only [Nd.op, Nd.kind, Nd.fa, Nd.a, Nd.ins, Nd.body] at c0 c1 c2 c3 c4 c5 hu hbv HC
          obtain ⟨Au, cu, rfl⟩ := hu.form
          obtain ⟨Ab, cb, rfl⟩ := hbv.form
          clear hext hlt hk hu hbv
          rw [HP.out, Bool.true_and] at HS
          go_wp2_with fail
          refine HC.out.mono ?_
          rintro e w2 ⟨rfl, he2⟩
          have HX2 := Lib.hid (HE.out.trans he2)
          clear he2 c0 c1 c2 c3 c4 c5
          cases r with
          | true =>
            go_wp2
            exact ⟨⟨k + 1, HLT.out, by go_num, HS.out, HX2.out⟩, by have := HLT.out; simp [intOf]; omega⟩
          | false =>
            have HF := Lib.hid (HNO.out rfl)
            go_wp2
            go_ret
            exact ⟨by rw [HF.out]; rfl, HX2.out⟩
        · obtain rfl : k = l.length := by omega
          have q1 : ¬ (l.length : Int) < (l.length : Int) := by omega
          rw [List.take_length] at HP
          clear hext
          go_wp2
          go_ret
          exact ⟨by rw [HP.out]; rfl, HE.out⟩
    · rw [decide_eq_false h2, Bool.false_and, Bool.and_false]
      have g1 : ¬ (l.length : Int) < 1 := by omega
      have g2 : (32 : Int) < (l.length : Int) := by omega
      clear h1 h2
      go_enter Try.func65, Try.ntmps65
      go_wp2
      go_ret
      exact ⟨rfl, Ext.refl _⟩
  · rw [decide_eq_false h1, Bool.false_and]
    have g1 : (l.length : Int) < 1 := by omega
    clear h1
    go_enter Try.func65, Try.ntmps65
    go_wp2
    go_ret
    exact ⟨rfl, Ext.refl _⟩
set_option maxHeartbeats 4000000 in
theorem rCheck_any (d : Nat) (v : Value) (l : List Nd) (out : Int) (w : World) (hv : NodesR d w v l) :
    Calls Try.prog 13 #[gAg v out] w fun e w' => e = .returned (.bool (gOk (l, out))) ∧ Ext w w' := by
  obtain ⟨A, c, rfl⟩ := hv.form
  have HX0 := Lib.hid ((Ext.refl w).alloc (gCs (.slice A l.length c) out))
  have HB0 := Lib.hid (Blk.new w 24 #[.slice A l.length c, .int .i64 out])
  have HV := Lib.hid (hv.ext HX0.out)
  have HG := Lib.hid (show gOk (l, out) = ((decide (1 ≤ l.length) && (decide (l.length ≤ 32) && each outOk l 0)) && (decide (0 ≤ out) && (decide (out < (l.length : Int)) && decide (loops l ≤ 1)))) from rfl)
  generalize gOk (l, out) = R at *
  clear hv
  go_enter Try.func13, Try.ntmps13
  go_upto_region 1 with fail
  generalize w.heap.size = p at *
  generalize w.alloc (gCs (.slice A l.length c) out) = w0 at *
  have c0 : w0.cell? ⟨p, 0, none⟩ = some (.slice A l.length c) := HB0.out.cell 0
  have c1 : w0.cell? ⟨p, 1, none⟩ = some (.int .i64 out) := HB0.out.cell 1
  by_cases h1 : 1 ≤ l.length
  case neg =>
    have HE := Lib.hid (show R = false by rw [HG.out, decide_eq_false h1]; rfl)
    have g1 : (l.length : Int) < 1 := by omega
    clear h1
    go_wp2
    go_ret
    exact ⟨by rw [HE.out]; rfl, HX0.out⟩
  by_cases h2 : l.length ≤ 32
  case neg =>
    have HE := Lib.hid (show R = false by rw [HG.out, decide_eq_false h2]; simp)
    have g1 : ¬ (l.length : Int) < 1 := by omega
    have g2 : (32 : Int) < (l.length : Int) := by omega
    clear h1 h2
    go_wp2
    go_ret
    exact ⟨by rw [HE.out]; rfl, HX0.out⟩
  by_cases h3 : 0 ≤ out
  case neg =>
    have HE := Lib.hid (show R = false by rw [HG.out, decide_eq_false h3]; simp)
    have g1 : ¬ (l.length : Int) < 1 := by omega
    have g2 : ¬ (32 : Int) < (l.length : Int) := by omega
    have g3 : out < 0 := by omega
    clear h1 h2 h3
    go_wp2
    go_ret
    exact ⟨by rw [HE.out]; rfl, HX0.out⟩
  by_cases h4 : out < (l.length : Int)
  case neg =>
    have HE := Lib.hid (show R = false by rw [HG.out, decide_eq_false h4]; simp)
    have g1 : ¬ (l.length : Int) < 1 := by omega
    have g2 : ¬ (32 : Int) < (l.length : Int) := by omega
    have g3 : ¬ out < 0 := by omega
    have g4 : (l.length : Int) ≤ out := by omega
    clear h1 h2 h3 h4
    go_wp2
    go_ret
    exact ⟨by rw [HE.out]; rfl, HX0.out⟩
  rw [decide_eq_true h1, decide_eq_true h2, decide_eq_true h3, decide_eq_true h4, Bool.true_and, Bool.true_and, Bool.true_and, Bool.true_and] at HG
  have g1 : ¬ (l.length : Int) < 1 := by omega
  have g2 : ¬ (32 : Int) < (l.length : Int) := by omega
  have g3 : ¬ out < 0 := by omega
  have g4 : ¬ (l.length : Int) ≤ out := by omega
  have H2 := Lib.hid h2
  clear h1 h2 h3 h4
  go_wp2
  clear c0 c1 g3 g4
  go_loopw [3, 4] (fun ov iv wr => ∃ k : Nat, k ≤ l.length ∧ iv = .int .i64 (k : Int) ∧ ov = .int .i64 (loops (l.take k) : Int) ∧ each outOk (l.take k) 0 = true ∧ Ext w0 wr) (fun _ iv _ => l.length - (intOf iv).toNat)
  case atStart => exact ⟨0, Nat.zero_le _, rfl, rfl, rfl, Ext.refl _⟩
  case round =>
    obtain ⟨k, hk, rfl, rfl, hp, hext⟩ := hrel
    have HP := Lib.hid hp
    have HE := Lib.hid hext
    have hll := loops_le l k
    have hb := HB0.out.ext hext
    have c0 : wr.cell? ⟨p, 0, none⟩ = some (.slice A l.length c) := hb.cell 0
    clear hp hb
    by_cases hlt : k < l.length
    · have q1 : (k : Int) < (l.length : Int) := by omega
      have q0 : 0 ≤ (k : Int) := by omega
      have q1n : k < l.length := hlt
      have HLT := Lib.hid hlt
      have hk32 : k ≤ 32 := by have := H2.out; omega
      obtain ⟨bA, oA, u, bv, rfl, e0, e1, e2, e3, e4, e5, hu, hbv⟩ := (HV.out.ext hext).at_ hlt
      have HLS := Lib.hid (loops_s l hlt)
      have HS := Lib.hid (each_s outOk l hlt)
      have HNO := Lib.hid (each_no outOk l hlt)
      have HC := rnode_at (-1) (fun n i => bodyOk n.body i) l[k] k _ u bv wr (.inl rfl) hu hbv (fun _ _ W he => rbody_any k _ bv l[k].body W (hbv.ext he))
      rw [nodeB_out] at HC
      have HC := Lib.hid HC
      obtain ⟨n, hn⟩ : ∃ n, n = loops (l.take k) := ⟨_, rfl⟩
      rw [← hn] at HLS hll ⊢
      generalize outOk l[k] k = r at *
      generalize l[k] = x at *
      obtain ⟨op, ins, kind, fa, a, body⟩ := x
      simp only [Nd.op, Nd.kind, Nd.fa, Nd.a, Nd.ins, Nd.body] at e0 e1 e2 e3 e4 e5 hu hbv HC
      replace HLS := Lib.hid (show loops (l.take (k + 1)) = n + (if op = 9 then 1 else 0) from HLS.out)
      obtain ⟨Au, cu, rfl⟩ := hu.form
      obtain ⟨Ab, cb, rfl⟩ := hbv.form
      clear hext hlt hk hu hbv hn
      rw [HP.out, Bool.true_and] at HS
      go_wp2_with fail
      refine HC.out.mono ?_
      rintro e w2 ⟨rfl, he2⟩
      have HX2 := Lib.hid (HE.out.trans he2)
      have c0 := he2.cell c0
      have e0 := he2.cell e0
      clear he2 e1 e2 e3 e4 e5
      cases r with
      | true =>
        by_cases h9 : op = 9
        · rw [if_pos h9] at HLS
          subst h9
          go_wp2
          exact ⟨⟨k + 1, HLT.out, by go_num, by rw [HLS.out]; go_num, HS.out, HX2.out⟩, by have := HLT.out; simp [intOf]; omega⟩
        · rw [if_neg h9] at HLS
          go_wp2
          exact ⟨⟨k + 1, HLT.out, by go_num, by rw [HLS.out]; rfl, HS.out, HX2.out⟩, by have := HLT.out; simp [intOf]; omega⟩
      | false =>
        have HF := Lib.hid (show R = false by rw [HG.out, HNO.out rfl]; rfl)
        go_wp2
        go_ret
        exact ⟨by rw [HF.out]; rfl, HX0.out.trans HX2.out⟩
    · obtain rfl : k = l.length := by omega
      have q1 : ¬ (l.length : Int) < (l.length : Int) := by omega
      rw [List.take_length] at HP ⊢
      rw [HP.out, Bool.true_and] at HG
      clear hext hll
      generalize loops l = n at *
      by_cases h1 : n ≤ 1
      · have HF := Lib.hid (show R = true by rw [HG.out, decide_eq_true h1])
        have q2 : (n : Int) ≤ 1 := by omega
        clear h1
        go_wp2
        go_ret
        exact ⟨by rw [HF.out]; rfl, HX0.out.trans HE.out⟩
      · have HF := Lib.hid (show R = false by rw [HG.out, decide_eq_false h1])
        have q2 : ¬ (n : Int) ≤ 1 := by omega
        clear h1
        go_wp2
        go_ret
        exact ⟨by rw [HF.out]; rfl, HX0.out.trans HE.out⟩
end Go.Proofs.Ytcacicgkebcdkaa
