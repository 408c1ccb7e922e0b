/-
  Layer 17: GraphGrows.
-/
import Derived.Test.YtpmikcklkddocaaGrLives
import Derived.Test.YtpmikcklkddocaaGrArgs
import Derived.Test.YtpmikcklkddocaaTree
namespace Go.Ox.Gr
open Go.RowKit
theorem grows_ok {l : List Nd} {out : Int} (h : gOk (l, out) = true) (hl : l.length < 32) (x : Int) : gOk (l ++ [.mk 7 [x] 0 0 0 []], (l.length : Int)) = (decide (0 ≤ x) && decide (x < (l.length : Int))) := by
  obtain ⟨h1, h2, h3, h4, h5, h6⟩ := gOk_parts h
  have e1 : each outOk (l ++ [.mk 7 [x] 0 0 0 []]) 0 = (decide (0 ≤ x) && decide (x < (l.length : Int))) := by
    rw [each_app, h3, Bool.true_and, Nat.zero_add]
    unfold each each outOk base opOk insOk fnOk numOk
    simp [Nd.op, Nd.ins, Nd.kind, Nd.fa, Nd.a, Nd.body, arity, fmly]
  have e2 : loops (l ++ [.mk 7 [x] 0 0 0 []]) = loops l := by
    unfold loops
    rw [List.filter_append]
    simp [Nd.op]
  unfold gOk listOk
  dsimp only
  rw [e1, e2, List.length_append, List.length_singleton, decide_eq_true (show 1 ≤ l.length + 1 by omega), decide_eq_true (show l.length + 1 ≤ 32 by omega), decide_eq_true (show (0 : Int) ≤ (l.length : Int) by omega),
    decide_eq_true (show (l.length : Int) < ((l.length + 1 : Nat) : Int) by omega), decide_eq_true h6]
  simp
/-- cells of nodes are plain -/
theorem NdQ.plain {NR : World → Value → List Nd → Prop} {w : World} {r : List Value} {n : Nd} (h : NdQ NR w r n) (hb : ∀ v l, NR w v l → v.oneCell' = true) : ∀ u ∈ r, u.oneCell' = true := by
  obtain ⟨u, b, rfl, hu, hn⟩ := h
  obtain ⟨A, c, rfl⟩ := hu.form
  have := hb _ _ hn
  intro x hx
  simp at hx
  rcases hx with rfl | rfl | rfl | rfl | rfl | rfl
  · rfl
  · rfl
  · rfl
  · rfl
  · rfl
  · exact this
end Go.Ox.Gr
namespace Go.Proofs.Ytpmikcklkddocaa
open Go.RowKit Go.Ox Go.Ox.Gr
set_option linter.unusedVariables false
set_option linter.unusedSimpArgs false
/-- nodes, copied behind nothing -/
def CopyQ (d : Nat) (w0 : World) (w : World) (r : List Value) (n : Nd) : Prop := Ext w0 w → NdQ (NodesR d) w r n
theorem wpList_appN {d : Nat} {w0 : World} {ops : Array Oper} {rest : List Oper} {o : Oper} {a : Act} {Q : Exit → Act → World → Prop} (hgd : o.guard = none) (w : World) (s x : Operand)
    (ho : o.op = .call { callee := .builtin .append, args := #[s, x], argTypes := #[22, 22] })
    (v vx : Value) (l : List Nd) (hs : a.eval s = v) (hown : w.ownsRow w0.heap.size 40 6 v 0 []) (hx : a.eval x = vx) (hv : NodesR (d + 1) w0 vx l) (he : Ext w0 w) (hl : l.length ≤ 1000)
    (h : ∀ v' w', OS (fun _ => False) 40 6 w0.heap.size (CopyQ d w0) w' v' l → Ext w0 w' → wpList Try.prog ops Q rest (a.put o.dst v') w') : wpList Try.prog ops Q (o :: rest) a w := by
  obtain ⟨rows, h1, h2, h3⟩ := (NodesR.one hv).ex
  have hone : ∀ u ∈ rows.flatten, u.oneCell' = true := fun u hu => by
    obtain ⟨r, hr, hur⟩ := List.mem_flatten.1 hu
    obtain ⟨i, hi, rfl⟩ := List.getElem_of_mem hr
    refine NdQ.plain (h3 i rows[i] (l[i]'(by omega)) (List.getElem?_eq_getElem hi) (List.getElem?_eq_getElem (by omega))).2 (fun v l h => ?_) u hur
    obtain ⟨A, c, rfl⟩ := NodesR.form h
    rfl
  refine wpList_app hgd elemNd w s x ho w0.heap.size v 0 [] hs hown vx rows.length rows.flatten hx (Rd.ext h1 he) hone (by rw [h2]; omega) (by rw [h2]; unfold maxLen; omega) he.size fun v' w' ha => ?_
  refine h v' w' ⟨rows, ?_, h2, fun i r x hr hx => ⟨(h3 i r x hr hx).1, fun W _ hE => ?_⟩⟩ (ha.ext he rfl hown)
  · have := ha.own
    rwa [Nat.zero_add, List.nil_append] at this
  · obtain ⟨u, b, e1, e2, e3⟩ := (h3 i r x hr hx).2
    exact ⟨u, b, e1, RE.ext e2 hE, NodesR.ext e3 hE⟩
/-- what is known ahead of the second append -/
theorem grow_facts {d : Nat} (w2 w4 : World) (A4 : Option Addr) (c4 ln : Nat) (l : List Nd) (n : Int) (ho : OS (fun _ => False) 40 6 w2.heap.size (CopyQ d w2) w4 (.slice A4 ln c4) l) (he : Ext w2 w4) :
    OS (fun _ => False) 40 6 w2.heap.size (CopyQ d w2) ((w4.alloc (.cells #[.int .i64 n] 3)).alloc (ndCs 7 0 0 0 (.slice (some ⟨w4.heap.size, 0, none⟩) 1 1) (.slice none 0 0))) (.slice A4 ln c4) l ∧
    Rd ((w4.alloc (.cells #[.int .i64 n] 3)).alloc (ndCs 7 0 0 0 (.slice (some ⟨w4.heap.size, 0, none⟩) 1 1) (.slice none 0 0))) 6 (.slice (some ⟨w4.heap.size + 1, 0, none⟩) 1 1) 1 [.int .i64 7, .slice (some ⟨w4.heap.size, 0, none⟩) 1 1, .int .i64 0, .int .i64 0, .int .i64 0, .slice none 0 0] ∧
    (∀ W, ExtQ (MayK (fun _ => False) (.slice A4 ln c4) ((w4.alloc (.cells #[.int .i64 n] 3)).alloc (ndCs 7 0 0 0 (.slice (some ⟨w4.heap.size, 0, none⟩) 1 1) (.slice none 0 0)))) ((w4.alloc (.cells #[.int .i64 n] 3)).alloc (ndCs 7 0 0 0 (.slice (some ⟨w4.heap.size, 0, none⟩) 1 1) (.slice none 0 0))) W →
      CopyQ d w2 W [.int .i64 7, .slice (some ⟨w4.heap.size, 0, none⟩) 1 1, .int .i64 0, .int .i64 0, .int .i64 0, .slice none 0 0] (.mk 7 [n] 0 0 0 [])) ∧
    Ext w2 ((w4.alloc (.cells #[.int .i64 n] 3)).alloc (ndCs 7 0 0 0 (.slice (some ⟨w4.heap.size, 0, none⟩) 1 1) (.slice none 0 0))) := by
  have e5 := (Ext.refl w4).alloc (.cells #[.int .i64 n] 3)
  have e6 := e5.alloc (ndCs 7 0 0 0 (.slice (some ⟨w4.heap.size, 0, none⟩) 1 1) (.slice none 0 0))
  have hoi : OE 3 w4.heap.size (w4.alloc (.cells #[.int .i64 n] 3)) (.slice (some ⟨w4.heap.size, 0, none⟩) 1 1) [n] := OE.mk (World.ownsRow_lit (e := 3) (size := 1) w4 #[.int .i64 n] 1 (Nat.le_refl _) (by unfold maxLen; omega) rfl)
  have ho6 := OE.ext hoi ((Ext.refl _).alloc (ndCs 7 0 0 0 (.slice (some ⟨w4.heap.size, 0, none⟩) 1 1) (.slice none 0 0)))
  have hsz : (w4.alloc (.cells #[.int .i64 n] 3)).heap.size = w4.heap.size + 1 := by simp
  refine ⟨ho.ext e6, ?_, fun W hW hE => ?_, he.trans e6⟩
  · have := nd_lit2 (w4.alloc (.cells #[.int .i64 n] 3)) 40 7 0 0 0 (some ⟨w4.heap.size, 0, none⟩) 1 1 none 0 0
    rwa [hsz] at this
  · refine ⟨_, _, rfl, (OE.extQ' ho6 hW fun k hk hq => ?_).re, NodesR.nil _ _⟩
    have h1 := ho6.own.lt k hk
    rcases hq with hq | hq | hq
    · exact hq
    · have := (ho.lt hq).2; omega
    · omega
theorem grow_done {d : Nat} {w2 w6 w9 : World} {v v9 : Value} {l l9 : List Nd} (ho : OS (fun _ => False) 40 6 w2.heap.size (CopyQ d w2) w6 v l) (ho9 : OS (fun _ => False) 40 6 w2.heap.size (CopyQ d w2) w9 v9 l9) (he : Ext w2 w6) (hg : w6.grownBy w9 v.ownBlock) :
    NodesR (d + 1) w9 v9 l9 ∧ Ext w2 w9 := by
  have hx : Ext w2 w9 := he.grown hg fun k hk => (ho.lt hk).1
  exact ⟨NodesR.of_rs (RS.map (OS.rs ho9) fun r x _ hq => hq hx), hx⟩
attribute [local irreducible] RE OE NodesR RB OB
set_option maxRecDepth 100000 in
set_option maxHeartbeats 4000000 in
theorem graphGrows_skip (d : Nat) (v : Value) (g : G) (n : Int) (w : World) (hv : NodesR d w v g.1) (h : largeB g.1 = true ∨ (largeB g.1 = false ∧ gOk g = false) ∨ (largeB g.1 = false ∧ gOk g = true ∧ 32 ≤ g.1.length)) :
    Calls Try.prog 8 #[gAg v g.2, .int .i64 n] w fun e w' => e = .returned (.bool true) ∧ Ext w w' := by
  obtain ⟨l, out⟩ := g
  dsimp only at hv h ⊢
  obtain ⟨A, c, rfl⟩ := hv.form
  have HL := Lib.hid lives_any
  have HX := Lib.hid ((Ext.refl w).alloc (gCs (.slice A l.length c) out))
  have HB := Lib.hid (Blk.new w 24 #[.slice A l.length c, .int .i64 out])
  have HV := Lib.hid (hv.ext HX.out)
  have HLG := Lib.hid (fun w h => large_any d (.slice A l.length c) l out w h)
  have HRC := Lib.hid (fun w h => rCheck_any d (.slice A l.length c) l out w h)
  clear hv
  go_enter Try.func8, Try.ntmps8
  go_upto_region 1 with fail
  generalize w.heap.size = p at *
  generalize w.alloc (gCs (.slice A l.length c) out) = w0 at *
  have y0 : w0.cell? ⟨p, 0, none⟩ = some (.slice A l.length c) := HB.out.cell 0
  have y1 : w0.cell? ⟨p, 1, none⟩ = some (.int .i64 out) := HB.out.cell 1
  have HC := Lib.hid (HLG.out _ HV.out)
  rcases h with h | ⟨h, hk⟩ | ⟨h, hk, hn⟩
  · rw [h] at HC
    clear h
    go_wp2_with fail
    refine HC.out.mono ?_
    rintro e w1 ⟨rfl, he⟩
    replace HX := Lib.hid (HX.out.trans he)
    clear he y0 y1 HC
    go_wp2_with fail
    refine (HL.out _).mono ?_
    rintro e w2 ⟨rfl, he⟩
    replace HX := Lib.hid (HX.out.trans he)
    clear he
    go_wp2
    go_ret
    exact ⟨rfl, HX.out⟩
  · rw [h] at HC
    rw [hk] at HRC
    clear h hk
    go_wp2_with fail
    refine HC.out.mono ?_
    rintro e w1 ⟨rfl, he⟩
    replace HX := Lib.hid (HX.out.trans he)
    replace HV := Lib.hid (HV.out.ext he)
    replace HB := Lib.hid (HB.out.ext he)
    clear he y0 y1 HC
    have y0 : w1.cell? ⟨p, 0, none⟩ = some (.slice A l.length c) := HB.out.cell 0
    have y1 : w1.cell? ⟨p, 1, none⟩ = some (.int .i64 out) := HB.out.cell 1
    have HC := Lib.hid (HRC.out _ HV.out)
    go_wp2_with fail
    refine HC.out.mono ?_
    rintro e w2 ⟨rfl, he⟩
    replace HX := Lib.hid (HX.out.trans he)
    clear he y0 y1 HC
    go_wp2_with fail
    refine (HL.out _).mono ?_
    rintro e w3 ⟨rfl, he⟩
    replace HX := Lib.hid (HX.out.trans he)
    clear he
    go_wp2
    go_ret
    exact ⟨rfl, HX.out⟩
  · rw [h] at HC
    rw [hk] at HRC
    clear h hk
    go_wp2_with fail
    refine HC.out.mono ?_
    rintro e w1 ⟨rfl, he⟩
    replace HX := Lib.hid (HX.out.trans he)
    replace HV := Lib.hid (HV.out.ext he)
    replace HB := Lib.hid (HB.out.ext he)
    clear he y0 y1 HC
    have y0 : w1.cell? ⟨p, 0, none⟩ = some (.slice A l.length c) := HB.out.cell 0
    have y1 : w1.cell? ⟨p, 1, none⟩ = some (.int .i64 out) := HB.out.cell 1
    have HC := Lib.hid (HRC.out _ HV.out)
    go_wp2_with fail
    refine HC.out.mono ?_
    rintro e w2 ⟨rfl, he⟩
    replace HX := Lib.hid (HX.out.trans he)
    replace HB := Lib.hid (HB.out.ext he)
    clear he y0 y1 HC
    have y0 : w2.cell? ⟨p, 0, none⟩ = some (.slice A l.length c) := HB.out.cell 0
    have q1 : (l.length : Int) ≥ 32 := by omega
    clear hn
    generalize l.length = ln at *
    go_wp2_with fail
    refine (HL.out _).mono ?_
    rintro e w3 ⟨rfl, he⟩
    replace HX := Lib.hid (HX.out.trans he)
    clear he
    go_wp2
    go_ret
    exact ⟨rfl, HX.out⟩
set_option maxRecDepth 100000 in
set_option maxHeartbeats 8000000 in
theorem graphGrows_main (d : Nat) (v : Value) (l : List Nd) (out n : Int) (w : World) (hv : NodesR (d + 1) w v l) (hl : largeB l = false) (hok : gOk (l, out) = true) (hlen : l.length < 32) :
    Calls Try.prog 8 #[gAg v out, .int .i64 n] w fun e w' => e = .returned (.bool true) ∧ Ext w w' := by
  obtain ⟨A, c, rfl⟩ := hv.form
  have HL := Lib.hid lives_any
  have HX := Lib.hid ((Ext.refl w).alloc (gCs (.slice A l.length c) out))
  have HB := Lib.hid (Blk.new w 24 #[.slice A l.length c, .int .i64 out])
  have HV := Lib.hid (hv.ext HX.out)
  have HLG := Lib.hid (fun w h => large_any (d + 1) (.slice A l.length c) l out w h)
  have HRC := Lib.hid (fun w h => rCheck_any (d + 1) (.slice A l.length c) l out w h)
  rw [hl] at HLG
  rw [hok] at HRC
  have HGR := Lib.hid (grows_ok hok hlen n)
  have HLN := Lib.hid hlen
  clear hv hl hok hlen
  obtain ⟨ln, hln⟩ : ∃ ln, ln = l.length := ⟨_, rfl⟩
  rw [← hln] at HX HB HV HLG HRC HGR HLN ⊢
  have HLL := Lib.hid hln
  clear hln
  have q32 : ¬ (ln : Int) ≥ 32 := by have := HLN.out; omega
  go_enter Try.func8, Try.ntmps8
  go_upto_region 1 with fail
  generalize w.heap.size = p at *
  generalize w.alloc (gCs (.slice A ln c) out) = w0 at *
  have y0 : w0.cell? ⟨p, 0, none⟩ = some (.slice A ln c) := HB.out.cell 0
  have y1 : w0.cell? ⟨p, 1, none⟩ = some (.int .i64 out) := HB.out.cell 1
  have HC := Lib.hid (HLG.out _ HV.out)
  go_wp2_with fail
  refine HC.out.mono ?_
  rintro e w1 ⟨rfl, he⟩
  replace HX := Lib.hid (HX.out.trans he)
  replace HV := Lib.hid (HV.out.ext he)
  replace HB := Lib.hid (HB.out.ext he)
  clear he y0 y1 HC HLG
  have y0 : w1.cell? ⟨p, 0, none⟩ = some (.slice A ln c) := HB.out.cell 0
  have y1 : w1.cell? ⟨p, 1, none⟩ = some (.int .i64 out) := HB.out.cell 1
  have HC := Lib.hid (HRC.out _ HV.out)
  go_wp2_with fail
  refine HC.out.mono ?_
  rintro e w2 ⟨rfl, he⟩
  replace HX := Lib.hid (HX.out.trans he)
  replace HV := Lib.hid (HV.out.ext he)
  replace HB := Lib.hid (HB.out.ext he)
  clear he y0 y1 HC HRC
  have y0 : w2.cell? ⟨p, 0, none⟩ = some (.slice A ln c) := HB.out.cell 0
  have HO2 := Lib.hid (World.ownsRow_lit (e := 40) (size := 6) w2 #[] 0 (Nat.le_refl _) (by unfold maxLen; omega) rfl)
  have HE2 := Lib.hid ((Ext.refl w2).alloc (.cells #[] 40))
  have y0e : (w2.alloc (.cells #[] 40)).cell? ⟨p, 0, none⟩ = some (.slice A ln c) := HE2.out.cell y0
  go_wp2_with (first
    | (at_builtin; refine wpList_appN (d := d) (w0 := w2) rfl _ (.tmp 25) (.tmp 27) rfl _ _ l rfl HO2.out rfl HV.out HE2.out (by have h1 := HLN.out; have h2 := HLL.out; omega) ?_; intro v4 w4 ho4 he4; have HO4 := Lib.hid ho4; have HE4 := Lib.hid he4; clear ho4 he4; obtain ⟨A4, c4, hv4⟩ := HO4.out.form; rw [← HLL.out] at hv4; subst hv4; have HF := Lib.hid (grow_facts (d := d) w2 w4 A4 c4 ln l n HO4.out HE4.out))
    | (at_builtin; refine Go.Ox.wpList_appS rfl elemNd _ (.tmp 28) (.tmp 32) rfl w2.heap.size _ _ l rfl HF.out.1 rfl _ (.mk 7 [n] 0 0 0 []) HF.out.2.1 (nd_one2 _ _ _ _ _ _ _ _ _ _) rfl HF.out.2.2.1 (by have h1 := HLN.out; have h2 := HLL.out; omega) (by have h1 := HLN.out; have h2 := HLL.out; unfold maxLen; omega) HF.out.2.2.2.size ?_; intro v9 w9 ho9 hg9; have HN9 := Lib.hid (grow_done HF.out.1 ho9 HF.out.2.2.2 hg9); clear ho9 hg9; obtain ⟨A9, c9, hv9⟩ := HN9.out.1.form; rw [List.length_append, List.length_singleton, ← HLL.out] at hv9; subst hv9))
  have hal := (Ext.refl w9).alloc (gCs (.slice A9 (ln + 1) c9) (ln : Nat))
  have HC := Lib.hid (gCheck_any (d + 1) (.slice A9 (ln + 1) c9) (l ++ [.mk 7 [n] 0 0 0 []]) (ln : Nat) (w9.alloc (gCs (.slice A9 (ln + 1) c9) (ln : Nat))) (HN9.out.1.ext hal))
  replace HX := Lib.hid ((HX.out.trans HN9.out.2).trans hal)
  have HGE := Lib.hid (show gE (l ++ [.mk 7 [n] 0 0 0 []], ((ln : Nat) : Int)) = if gOk (l ++ [.mk 7 [n] 0 0 0 []], ((ln : Nat) : Int)) = true then 0 else 170 from rfl)
  rw [HGR.out] at HGE
  clear hal HN9 HF HO4 HE4 HO2 HE2 y0e y0
  generalize gE (l ++ [.mk 7 [n] 0 0 0 []], ((ln : Nat) : Int)) = ge at *
  generalize w9.alloc (gCs (.slice A9 (ln + 1) c9) (ln : Nat)) = w10 at *
  by_cases h0 : 0 ≤ n
  · by_cases h1 : n < (ln : Int)
    · obtain rfl : ge = 0 := by rw [HGE.out, decide_eq_true h0, decide_eq_true h1]; rfl
      go_wp2_with fail
      refine HC.out.mono ?_
      rintro e w11 ⟨rfl, he⟩
      replace HX := Lib.hid (HX.out.trans he)
      clear he HC
      go_wp2_with fail
      refine (HL.out _).mono ?_
      rintro e w12 ⟨rfl, he⟩
      replace HX := Lib.hid (HX.out.trans he)
      clear he
      go_wp2
      go_ret
      exact ⟨rfl, HX.out⟩
    · obtain rfl : ge = 170 := by rw [HGE.out, decide_eq_false h1, Bool.and_false]; rfl
      go_wp2_with fail
      refine HC.out.mono ?_
      rintro e w11 ⟨rfl, he⟩
      replace HX := Lib.hid (HX.out.trans he)
      clear he HC
      go_wp2_with fail
      refine (HL.out _).mono ?_
      rintro e w12 ⟨rfl, he⟩
      replace HX := Lib.hid (HX.out.trans he)
      clear he
      have HN1 := Lib.hid h1
      go_wp2
      go_ret
      exact ⟨by first | rfl | (rw [show decide (n < (ln : Int)) = false from decide_eq_false (by have := HN1.out; omega)]; rfl), HX.out⟩
  · obtain rfl : ge = 170 := by rw [HGE.out, decide_eq_false h0]; rfl
    go_wp2_with fail
    refine HC.out.mono ?_
    rintro e w11 ⟨rfl, he⟩
    replace HX := Lib.hid (HX.out.trans he)
    clear he HC
    go_wp2_with fail
    refine (HL.out _).mono ?_
    rintro e w12 ⟨rfl, he⟩
    replace HX := Lib.hid (HX.out.trans he)
    clear he
    go_wp2
    go_ret
    exact ⟨rfl, HX.out⟩
theorem graphGrows_law (w : World) (v : Value) (x : GArg) (hv : v = gAg x.1.1 x.2.2 ∧ NodesR x.1.2 w x.1.1 x.2.1) (n : Int) (_ : -9223372036854775808 ≤ n ∧ n ≤ 9223372036854775807) :
    Calls Try.prog 8 #[v, .int .i64 n] w fun e w' => e = .returned (.bool true) ∧ Ext w w' := by
  rw [hv.1]
  obtain ⟨⟨u, d⟩, l, out⟩ := x
  dsimp only at hv ⊢
  cases h : largeB l with
  | true => exact graphGrows_skip d u (l, out) n w hv.2 (.inl h)
  | false =>
    cases hk : gOk (l, out) with
    | false => exact graphGrows_skip d u (l, out) n w hv.2 (.inr (.inl ⟨h, hk⟩))
    | true =>
      by_cases hl : 32 ≤ l.length
      · exact graphGrows_skip d u (l, out) n w hv.2 (.inr (.inr ⟨h, hk, hl⟩))
      · cases d with
        | zero =>
          obtain rfl := NodesR.zero hv.2
          have := (gOk_parts hk).1
          simp at this
        | succ d => exact graphGrows_main d u l out n w hv.2 h hk (by omega)
end Go.Proofs.Ytpmikcklkddocaa
