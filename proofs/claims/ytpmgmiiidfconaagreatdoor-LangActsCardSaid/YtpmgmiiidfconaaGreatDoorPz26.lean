/-
  LaFun, packed: what the claim needs of them.
-/
import Derived.Test.YtpmgmiiidfconaaGreatDoorPz25
set_option linter.unusedVariables false
set_option linter.unusedSimpArgs false
namespace Go.Proofs.YtpmgmiiidfconaaGreatDoor
open Go.RowKit Go.Ox Go.Ox.Gr Go.Ox.Sc Go.Ox.La Go.Shelf
/-- the kind of a function's word: the last one that fits -/
def kindF (x : W) (of : Int) : Nat → Int
  | 0 => 0
  | k + 1 => if (fnsAt k = x ∧ x ≠ []) ∧ betw (k : Int) of = true then (k : Int) else kindF x of k
theorem kindF_le (x : W) (of : Int) : ∀ k, 0 ≤ kindF x of k ∧ kindF x of k ≤ (k : Int)
  | 0 => ⟨Int.le_refl _, Int.le_refl _⟩
  | k + 1 => by
    have := kindF_le x of k
    unfold kindF
    split <;> omega
/-- a function's kind and number, what is left, is it bad? -/
def fnP (l : List W) (of : Int) : (Int × Int) × List W × Bool :=
  if kindF (l.headD []) of 24 = 0 then ((0, 0), l.tail, true)
  else if takesB (kindF (l.headD []) of 24) = true then ((kindF (l.headD []) of 24, (wnB (l.tail.headD [])).1), l.tail.tail, !(wnB (l.tail.headD [])).2)
  else ((kindF (l.headD []) of 24, 0), l.tail, false)
theorem wsr_lt {T : TypeId} {w0 w : World} {p : Nat} {l : List W} {bad : Bool} (h : WsR T w0 w p l bad) : p < w.heap.size := by
  obtain ⟨A, c, h1, h2⟩ := h.b
  exact h2.lt
theorem blk_fill2 {w : World} {p : Nat} {T : TypeId} {a b : Value} (h : Blk w p T #[a, b]) (u v : Value) : Blk ((w.setCell ⟨p, 0, none⟩ u).setCell ⟨p, 1, none⟩ v) p T #[u, v] := by
  simpa using (h.set_ 0 u).set_ 1 v
theorem extQ2 {Q : Nat → Prop} {w0 w : World} {q : Nat} (h : ExtQ Q w0 w) (hq : Q q) (v0 v1 : Value) : ExtQ Q w0 ((w.setCell ⟨q, 0, none⟩ v0).setCell ⟨q, 1, none⟩ v1) :=
  (h.setCell (p := ⟨q, 0, none⟩) hq v0).setCell (p := ⟨q, 1, none⟩) hq v1
attribute [local irreducible] RE OE GlT betw opsAt fnsAt
set_option maxRecDepth 100000 in
set_option maxHeartbeats 16000000 in
theorem wfun_any (w0 : World) (p : Nat) (l : List W) (of : Int) (w : World) (h : WsR 60 w0 w p l false) (hp : p < w.heap.size) (hw : ∀ x ∈ l, x.length ≤ 1000000) (h1 : FnsT w0) (ho1 : 1 ≤ of) (ho5 : of ≤ 5) :
    Calls Tryz.prog 127 #[.pointer (some ⟨p, 0, none⟩), .int .i64 of] w fun e w' => e = .returned (.agg #[.int .i64 (fnP l of).1.1, .int .i64 (fnP l of).1.2]) ∧ WsR 60 w0 w' p (fnP l of).2.1 (fnP l of).2.2 ∧ ExtQ (fun k => k = p) w w' := by
  have hal := (Ext.refl w).alloc (.cells #[.int .i64 0, .int .i64 0] 55)
  have HX1 := Lib.hid hal
  have HB1 := Lib.hid (Blk.new w 55 #[.int .i64 0, .int .i64 0])
  have HWS1 := Lib.hid (h.e hal)
  have HP := Lib.hid hp
  have HOF := Lib.hid (And.intro ho1 ho5)
  have HFT := Lib.hid h1
  have HNX := Lib.hid (fun w h => wnext_any w0 p l false w h)
  have HNU := Lib.hid (fun w b h => wnumber_any w0 p l.tail b w h (fun x hx => hw x (List.mem_of_mem_tail hx)))
  have HBT := Lib.hid (fun (k : Nat) (hk : k < 24) w => lbetween_any (k : Int) of (by omega) (by omega) ho1 ho5 w)
  have HEM := Lib.hid (show l.isEmpty = true → kindF (l.headD []) of 24 = 0 from fun h => by
    cases l with
    | nil =>
      have : ∀ k, kindF ([] : W) of k = 0 := by
        intro k
        induction k with
        | zero => rfl
        | succ k ih => unfold kindF; rw [if_neg (by simp), ih]
      exact this 24
    | cons _ _ => simp at h)
  have HFP := Lib.hid (show fnP l of = (if kindF (l.headD []) of 24 = 0 then ((0, 0), l.tail, true)
  else if takesB (kindF (l.headD []) of 24) = true then ((kindF (l.headD []) of 24, (wnB (l.tail.headD [])).1), l.tail.tail, !(wnB (l.tail.headD [])).2)
  else ((kindF (l.headD []) of 24, 0), l.tail, false)) from rfl)
  have HKR := Lib.hid (kindF_le (l.headD []) of 24)
  have HKL := Lib.hid (fun k => kindF_le (l.headD []) of k)
  have HKS := Lib.hid (fun k => show kindF (l.headD []) of (k + 1) = if (fnsAt k = l.headD [] ∧ l.headD [] ≠ []) ∧ betw (k : Int) of = true then (k : Int) else kindF (l.headD []) of k from rfl)
  have HK0 := Lib.hid (show kindF (l.headD []) of 0 = 0 from rfl)
  generalize fnP l of = res at *
  generalize l.headD [] = x at *
  generalize l.isEmpty = em at *
  generalize l.tail = tl at *
  generalize kindF x of = KF at *
  obtain ⟨q, hq⟩ : ∃ q, q = w.heap.size := ⟨_, rfl⟩
  have HQ := Lib.hid hq
  clear h hp hw h1 ho1 ho5 hal
  go_enter Tryz.func127, Tryz.ntmps127
  go_upto_region 1 with fail
  rw [← hq] at HB1 ⊢
  clear hq
  generalize w.alloc (.cells #[.int .i64 0, .int .i64 0] 55) = w1 at *
  go_wp2_with fail
  refine (HNX.out _ HWS1.out).mono ?_
  rintro e w2 ⟨rfl, hws2, hq2⟩
  have HWS2 := Lib.hid hws2
  have HX2 := Lib.hid ((ExtQ.of (Q := fun k => k = p) HX1.out).trans hq2)
  have HB2 := Lib.hid (HB1.out.extQ hq2 (by have := HP.out; have := HQ.out; omega))
  have hft := HFT.out.ext hws2.x
  clear hws2 hq2
  obtain ⟨T, hT⟩ : ∃ T : TypeId, T = 100 := ⟨_, rfl⟩
  obtain ⟨kk, hkk⟩ : ∃ kk : Nat, kk = 24 := ⟨_, rfl⟩
  obtain ⟨FA, hFA⟩ : ∃ FA : Array Value, FA = ((List.range 24).map fun j => strV (fnsAt j)).toArray := ⟨_, rfl⟩
  have aT : ∀ W, (isAgg T).run Tryz.prog W = .ok true W := by rw [hT]; exact Tryz.isAgg100
  have sT : ∀ W, (Go.sizeOf T).run Tryz.prog W = .ok kk W := by rw [hT, hkk]; exact Tryz.sizeOf100
  have hload : (loadCellsFrom ⟨1, 0, none⟩ 0 kk #[]).run Tryz.prog w2 = .ok FA w2 := by
    rw [hkk, hFA]
    have h9 := run_loadCellsFrom (P := Tryz.prog) w2 ⟨1, 0, none⟩ (fun j => strV (fnsAt j)) 24 0 #[] (fun j hj => by
      have := fns_at hft j hj
      rw [Nat.zero_add]
      cases j <;> simpa [Addr.add] using this)
    simpa using h9
  have HG := Lib.hid (fun (j : Nat) (hj : j < 24) w => run_arr FA (T := 100) (n := 24) Tryz.underlying100 j hj (strV (fnsAt j)) (by rw [hFA]; simp [hj]) w)
  clear hft hFA hkk
  go_upto_region 3 with fail
  rw [← hT]
  clear hT
  go_wp2
  clear hload aT sT
  go_loopw [13, 6] (fun iv kv wr => ∃ j : Nat, j ≤ 24 ∧ iv = .int .i64 (j : Int) ∧ kv = .int .i64 (KF j) ∧ Ext w2 wr) (fun iv _ _ => 24 - (intOf iv).toNat)
  case atStart => exact ⟨0, Nat.zero_le _, rfl, by rw [HK0.out], Ext.refl _⟩
  case round =>
    obtain ⟨j, hj, rfl, rfl, hext⟩ := hrel
    rename World => wr
    have HE := Lib.hid hext
    by_cases hlt : j < 24
    · have q1 : (j : Int) < 24 := by omega
      have hg := HG.out j hlt wr
      have HS := Lib.hid (HKS.out j)
      have HLT := Lib.hid hlt
      have HCB := Lib.hid (HBT.out j hlt wr)
      generalize fnsAt j = y at *
      clear hext
      by_cases hxy : y = x
      · subst hxy
        by_cases hne : y = []
        · have b1 := bs_t (x := y) (y := y) rfl
          have h0 := HS.out
          rw [if_neg (fun h => h.1.2 hne)] at h0
          have H0 := Lib.hid h0
          clear h0 hj hlt
          subst hne
          go_wp2
          all_goals exact ⟨⟨j + 1, HLT.out, by go_num, by rw [H0.out], HE.out⟩, by have := HLT.out; simp [intOf]; omega⟩
        · have b1 := bs_t (x := y) (y := y) rfl
          have b2 := bs_f (x := y) (y := []) hne
          have b3 := bs_n (x := y) (y := []) hne
          have b4 : y.isEmpty = false := by cases y with | nil => exact absurd rfl hne | cons _ _ => rfl
          have h0 := HS.out
          have HNE := Lib.hid hne
          clear hj hlt
          generalize betw (j : Int) of = bt at *
          cases bt with
          | true =>
            rw [if_pos ⟨⟨rfl, HNE.out⟩, rfl⟩] at h0
            have H0 := Lib.hid h0
            clear h0
            go_wp2_with fail
            refine HCB.out.mono ?_
            rintro e w5 ⟨rfl, he5⟩
            have HE5 := Lib.hid (HE.out.trans he5)
            clear he5
            go_wp2
            exact ⟨⟨j + 1, HLT.out, by go_num, by rw [H0.out], HE5.out⟩, by have := HLT.out; simp [intOf]; omega⟩
          | false =>
            rw [if_neg (fun h => by cases h.2)] at h0
            have H0 := Lib.hid h0
            clear h0
            go_wp2_with fail
            refine HCB.out.mono ?_
            rintro e w5 ⟨rfl, he5⟩
            have HE5 := Lib.hid (HE.out.trans he5)
            clear he5
            go_wp2
            exact ⟨⟨j + 1, HLT.out, by go_num, by rw [H0.out], HE5.out⟩, by have := HLT.out; simp [intOf]; omega⟩
      · have b1 := bs_f hxy
        have b2 := bs_n hxy
        have h0 := HS.out
        rw [if_neg (fun h => hxy h.1.1)] at h0
        have H0 := Lib.hid h0
        clear h0 hj hlt
        go_wp2
        all_goals exact ⟨⟨j + 1, HLT.out, by go_num, by rw [H0.out], HE.out⟩, by have := HLT.out; simp [intOf]; omega⟩
    · have q1 : ¬ (j : Int) < 24 := by omega
      obtain rfl : j = 24 := by omega
      have hK := HKR.out
      generalize KF 24 = K at *
      have HWS3 := Lib.hid (HWS2.out.e hext)
      have HX3 := Lib.hid (HX2.out.trans (ExtQ.of hext))
      have HB3 := Lib.hid (HB2.out.ext hext)
      have hal := (Ext.refl wr).alloc (.cells #[.int .i64 K, .int .i64 0] 55)
      have HB9 := Lib.hid (Blk.new wr 55 #[.int .i64 K, .int .i64 0])
      have HWS4 := Lib.hid (HWS3.out.e hal)
      have HX4 := Lib.hid (HX3.out.trans (ExtQ.of hal))
      have HB4 := Lib.hid (HB3.out.ext hal)
      have HPQ := Lib.hid (show p < wr.heap.size ∧ (q < wr.heap.size ∧ p ≠ q) from ⟨wsr_lt HWS3.out, HB3.out.lt, by have := HP.out; have := HQ.out; omega⟩)
      clear hext hlt hj HE HB3 HX3 HWS3
      go_upto_region 10 with fail
      obtain ⟨q9, hq9⟩ : ∃ q9, q9 = wr.heap.size := ⟨_, rfl⟩
      rw [← hq9] at HB9 HPQ ⊢
      have HQ9 := Lib.hid hq9
      clear hq9 hal
      generalize wr.alloc (.cells #[.int .i64 K, .int .i64 0] 55) = w4 at *
      obtain ⟨hlow, hx, A, c, hr, hb⟩ := HWS4.out
      have HR := Lib.hid (And.intro hlow (And.intro hx hr))
      have HBP := Lib.hid hb
      clear hlow hx hr hb
      by_cases hk0 : K = 0
      · subst hk0
        have hres := HFP.out
        rw [if_pos rfl] at hres
        have HRES := Lib.hid hres
        clear hres
        have HW5 := Lib.hid (show Blk (w4.setCell ⟨p, 1, none⟩ (.bool true)) p 60 #[.slice A tl.length c, .bool true] from by simpa using HBP.out.set_ 1 (.bool true))
        have HQ5 := Lib.hid (show ExtQ (fun k => k = p) w4 (w4.setCell ⟨p, 1, none⟩ (.bool true)) from ExtQ.setCell (Q := fun k => k = p) (ExtQ.refl _ _) (p := ⟨p, 1, none⟩) rfl _)
        have c1 : w4.cell? ⟨p, 1, none⟩ = some (.bool (false || em)) := (HBP.out.cell 1).trans rfl
        have f1 : w4.frozen? ⟨p, 1, none⟩ = false := HBP.out.frozen 1
        cases em
        all_goals
          go_upto_region 11 with fail
          generalize w4.setCell ⟨p, 1, none⟩ (.bool true) = w5 at *
          have HB6 := Lib.hid (HB4.out.extQ HQ5.out (fun e => HPQ.out.2.2 e.symm))
          have HB96 := Lib.hid (HB9.out.extQ HQ5.out (fun e => by have h1 : q9 = p := e; have := HPQ.out.1; omega))
          have d1 : w5.cell? ⟨p, 1, none⟩ = some (.bool true) := (HW5.out.cell 1).trans rfl
          have k0 : w5.cell? ⟨q9, 0, none⟩ = some (.int .i64 0) := (HB96.out.cell 0).trans rfl
          have k1 : w5.cell? ⟨q9, 1, none⟩ = some (.int .i64 0) := (HB96.out.cell 1).trans rfl
          have z0 : w5.cell? ⟨q, 0, none⟩ = some (.int .i64 0) := (HB6.out.cell 0).trans rfl
          have z1 : w5.cell? ⟨q, 1, none⟩ = some (.int .i64 0) := (HB6.out.cell 1).trans rfl
          have n0 : w5.frozen? ⟨q, 0, none⟩ = false := HB6.out.frozen 0
          have n1 : w5.frozen? ⟨q, 1, none⟩ = false := HB6.out.frozen 1
          have HF := Lib.hid (blk_fill2 HB6.out (.int .i64 0) (.int .i64 0))
          have HXF := Lib.hid (extQ2 (ExtQ.refl (fun k => k = q) w5) (q := q) rfl (.int .i64 0) (.int .i64 0))
          clear c1 f1
          go_wp2
          generalize (w5.setCell ⟨q, 0, none⟩ (.int .i64 0)).setCell ⟨q, 1, none⟩ (.int .i64 0) = wz at *
          have y0 := HF.out.cell 0
          have y1 := HF.out.cell 1
          exact bodyPost_ret (v := .agg #[.int .i64 0, .int .i64 0]) (by simp [results, Tryz.results127, go_sem, y0, y1]) rfl ⟨by rw [HRES.out], by rw [HRES.out]; exact (show WsR 60 w0 w5 p tl true from ⟨HR.out.1, HR.out.2.1.andQ HQ5.out (fun k hk => by have h1 : k = p := hk; have := HR.out.1; omega), A, c, HR.out.2.2, HW5.out⟩).q HXF.out (fun e => HPQ.out.2.2 e) (fun k hk => by have h1 : k = q := hk; have := HR.out.2.1.size; have := HQ.out; have := HP.out; have := HR.out.1; omega), exq_new (HX4.out.trans HQ5.out) HXF.out (fun y h1 h2 => by have h3 : y = q := h2; have := HQ.out; omega)⟩
      · have hem : em = false := by
          cases em with
          | false => rfl
          | true => exact absurd (HEM.out rfl) hk0
        subst hem
        have hres := HFP.out
        rw [if_neg hk0] at hres
        have HRES := Lib.hid hres
        clear hres
        have bk : (K == 0) = false := by simpa using hk0
        have HCT := Lib.hid (fun w => ltakes_any K w)
        have HW5 := Lib.hid (show Blk (w4.setCell ⟨p, 1, none⟩ (.bool false)) p 60 #[.slice A tl.length c, .bool false] from by simpa using HBP.out.set_ 1 (.bool false))
        have HQ5 := Lib.hid (show ExtQ (fun k => k = p) w4 (w4.setCell ⟨p, 1, none⟩ (.bool false)) from ExtQ.setCell (Q := fun k => k = p) (ExtQ.refl _ _) (p := ⟨p, 1, none⟩) rfl _)
        have c1 : w4.cell? ⟨p, 1, none⟩ = some (.bool false) := (HBP.out.cell 1).trans rfl
        have f1 : w4.frozen? ⟨p, 1, none⟩ = false := HBP.out.frozen 1
        go_upto_region 11 with fail
        generalize w4.setCell ⟨p, 1, none⟩ (.bool false) = w5 at *
        have HWS5 := Lib.hid (show WsR 60 w0 w5 p tl false from ⟨HR.out.1, HR.out.2.1.andQ HQ5.out (fun k hk => by have h1 : k = p := hk; have := HR.out.1; omega), A, c, HR.out.2.2, HW5.out⟩)
        have HB6 := Lib.hid (HB4.out.extQ HQ5.out (fun e => HPQ.out.2.2 e.symm))
        have HB96 := Lib.hid (HB9.out.extQ HQ5.out (fun e => by have h1 : q9 = p := e; have := HPQ.out.1; omega))
        have HX6 := Lib.hid (HX4.out.trans HQ5.out)
        have d1 : w5.cell? ⟨p, 1, none⟩ = some (.bool false) := (HW5.out.cell 1).trans rfl
        clear c1 f1
        go_wp2_with fail
        refine (HCT.out _).mono ?_
        rintro e w6 ⟨rfl, he6⟩
        have HWS6 := Lib.hid (HWS5.out.e he6)
        have HB7 := Lib.hid (HB6.out.ext he6)
        have HB97 := Lib.hid (HB96.out.ext he6)
        have HX7 := Lib.hid (HX6.out.trans (ExtQ.of he6))
        clear he6 d1
        generalize takesB K = tk at *
        cases tk with
        | false =>
          have k0 : w6.cell? ⟨q9, 0, none⟩ = some (.int .i64 K) := (HB97.out.cell 0).trans rfl
          have k1 : w6.cell? ⟨q9, 1, none⟩ = some (.int .i64 0) := (HB97.out.cell 1).trans rfl
          have z0 : w6.cell? ⟨q, 0, none⟩ = some (.int .i64 0) := (HB7.out.cell 0).trans rfl
          have z1 : w6.cell? ⟨q, 1, none⟩ = some (.int .i64 0) := (HB7.out.cell 1).trans rfl
          have n0 : w6.frozen? ⟨q, 0, none⟩ = false := HB7.out.frozen 0
          have n1 : w6.frozen? ⟨q, 1, none⟩ = false := HB7.out.frozen 1
          have HF := Lib.hid (blk_fill2 HB7.out (.int .i64 K) (.int .i64 0))
          have HXF := Lib.hid (extQ2 (ExtQ.refl (fun k => k = q) w6) (q := q) rfl (.int .i64 K) (.int .i64 0))
          have hres := HRES.out
          rw [if_neg (by decide)] at hres
          have HRE2 := Lib.hid hres
          clear hres
          go_wp2
          generalize (w6.setCell ⟨q, 0, none⟩ (.int .i64 K)).setCell ⟨q, 1, none⟩ (.int .i64 0) = wz at *
          have y0 := HF.out.cell 0
          have y1 := HF.out.cell 1
          exact bodyPost_ret (v := .agg #[.int .i64 K, .int .i64 0]) (by simp [results, Tryz.results127, go_sem, y0, y1]) rfl ⟨by rw [HRE2.out], by rw [HRE2.out]; exact HWS6.out.q HXF.out (fun e => HPQ.out.2.2 e) (fun k hk => by have h1 : k = q := hk; have := HR.out.2.1.size; have := HQ.out; have := HP.out; have := HR.out.1; omega), exq_new HX7.out HXF.out (fun y h1 h2 => by have h3 : y = q := h2; have := HQ.out; omega)⟩
        | true =>
          have hres := HRES.out
          rw [if_pos rfl] at hres
          have HRE2 := Lib.hid hres
          clear hres
          have HCN := Lib.hid (HNU.out w6 false HWS6.out)
          generalize wnB (tl.headD []) = NB at *
          obtain ⟨nv, nok⟩ := NB
          go_wp2_with fail
          refine HCN.out.mono ?_
          rintro e w7 ⟨rfl, hws7, hq7⟩
          have HWS7 := Lib.hid hws7
          have HB8 := Lib.hid (HB7.out.extQ hq7 (fun e => HPQ.out.2.2 e.symm))
          have HB98 := Lib.hid (HB97.out.extQ hq7 (fun e => by have h1 : q9 = p := e; have := HPQ.out.1; omega))
          have HX8 := Lib.hid (HX7.out.trans hq7)
          have e1 : w7.cell? ⟨q9, 1, none⟩ = some (.int .i64 0) := (HB98.out.cell 1).trans rfl
          have m1 : w7.frozen? ⟨q9, 1, none⟩ = false := HB98.out.frozen 1
          clear hws7 hq7
          go_upto_region 13 with fail
          have HQ8 := Lib.hid (show ExtQ (fun k => k = q9) w7 (w7.setCell ⟨q9, 1, none⟩ (.int .i64 nv)) from ExtQ.setCell (Q := fun k => k = q9) (ExtQ.refl _ _) (p := ⟨q9, 1, none⟩) rfl _)
          have HB99 := Lib.hid (show Blk (w7.setCell ⟨q9, 1, none⟩ (.int .i64 nv)) q9 55 #[.int .i64 K, .int .i64 nv] from by simpa using HB98.out.set_ 1 (.int .i64 nv))
          clear e1 m1
          generalize w7.setCell ⟨q9, 1, none⟩ (.int .i64 nv) = w8 at *
          have HBA := Lib.hid (HB8.out.extQ HQ8.out (fun e => by have h1 : q = q9 := e; have := HPQ.out.2.1; omega))
          have HWS8 := Lib.hid (HWS7.out.q HQ8.out (fun e => by have h1 : p = q9 := e; have := HPQ.out.1; omega) (fun k hk => by have h1 : k = q9 := hk; have := HPQ.out.1; have := HR.out.1; omega))
          have HX9 := Lib.hid (exq_new HX8.out HQ8.out (fun y h1 h2 => by have h3 : y = q9 := h2; have := HPQ.out.2.1; have := HQ.out; omega))
          have k0 : w8.cell? ⟨q9, 0, none⟩ = some (.int .i64 K) := (HB99.out.cell 0).trans rfl
          have k1 : w8.cell? ⟨q9, 1, none⟩ = some (.int .i64 nv) := (HB99.out.cell 1).trans rfl
          have z0 : w8.cell? ⟨q, 0, none⟩ = some (.int .i64 0) := (HBA.out.cell 0).trans rfl
          have z1 : w8.cell? ⟨q, 1, none⟩ = some (.int .i64 0) := (HBA.out.cell 1).trans rfl
          have n0 : w8.frozen? ⟨q, 0, none⟩ = false := HBA.out.frozen 0
          have n1 : w8.frozen? ⟨q, 1, none⟩ = false := HBA.out.frozen 1
          have HF := Lib.hid (blk_fill2 HBA.out (.int .i64 K) (.int .i64 nv))
          have HXF := Lib.hid (extQ2 (ExtQ.refl (fun k => k = q) w8) (q := q) rfl (.int .i64 K) (.int .i64 nv))
          go_wp2
          generalize (w8.setCell ⟨q, 0, none⟩ (.int .i64 K)).setCell ⟨q, 1, none⟩ (.int .i64 nv) = wz at *
          have y0 := HF.out.cell 0
          have y1 := HF.out.cell 1
          exact bodyPost_ret (v := .agg #[.int .i64 K, .int .i64 nv]) (by simp [results, Tryz.results127, go_sem, y0, y1]) rfl ⟨by rw [HRE2.out], by rw [HRE2.out]; exact (HWS8.out.q HXF.out (fun e => HPQ.out.2.2 e) (fun k hk => by have h1 : k = q := hk; have := HR.out.2.1.size; have := HQ.out; have := HP.out; have := HR.out.1; omega)), exq_new HX9.out HXF.out (fun y h1 h2 => by have h3 : y = q := h2; have := HQ.out; omega)⟩
end Go.Proofs.YtpmgmiiidfconaaGreatDoor
