/-
  GrPlaces, packed: what the claim needs of them.
-/
import Derived.Test.YtcacicgkebcdkaaPe13
import Derived.Test.YtcacicgkebcdkaaPe11
set_option linter.unusedSimpArgs false
set_option linter.unusedVariables false
set_option maxRecDepth 100000
namespace Go.Proofs.Ytcacicgkebcdkaa
open Go.RowKit Go.Ox Go.Ox.Gr
attribute [local irreducible] RE NodesR
set_option maxHeartbeats 400000 in
theorem isLoop_any (op kind fa a : Int) (u b : Value) (w : World) :
    Calls Try.prog 57 #[ndAg op kind fa a u b] w fun e w' => e = .returned (.bool (op == 9)) ∧ Ext w w' := by
  have HX := Lib.hid ((Ext.refl w).alloc (ndCs op kind fa a u b))
  obtain ⟨c0, c1, c2, c3, c4, c5⟩ := (Bx6.new w 45 (.int .i64 op) u (.int .i64 kind) (.int .i64 fa) (.int .i64 a) b).at_
  go_enter Try.func57, Try.ntmps57
  go_wp2
  go_ret
  exact ⟨rfl, HX.out⟩
set_option maxHeartbeats 2000000 in
theorem indexN_any (d : Nat) (v : Value) (l : List Nd) (w : World) (hv : NodesR d w v l) (hl : l.length ≤ 1000000) :
    Calls Try.prog 56 #[v, .func (.func 57) #[] #[]] w fun e w' => e = .returned (.int .i64 (loopAt l)) ∧ Ext w w' := by
  have eg : ∀ args w, (callFunc 57 args).run Try.prog w = .ok (.enter 57 args) w := enters_of Try.func57 (by kernel_rfl) rfl
  obtain ⟨A, c, rfl⟩ := hv.form
  have HV := Lib.hid hv
  have HL := Lib.hid hl
  clear hv hl
  go_enter Try.func56, Try.ntmps56
  go_wp2
  go_loopw [8] (fun iv wr => ∃ k : Nat, k ≤ l.length ∧ iv = .int .i64 (k : Int) ∧ loopAt (l.take k) = -1 ∧ Ext w wr) (fun iv _ => l.length - (intOf iv).toNat)
  case atStart => exact ⟨0, Nat.zero_le _, rfl, rfl, Ext.refl _⟩
  case round =>
    obtain ⟨k, hk, rfl, hp, hext⟩ := hrel
    have HP := Lib.hid hp
    have HE := Lib.hid hext
    clear hp
    by_cases hlt : k < l.length
    · have g1 : (k : Int) < (l.length : Int) := by omega
      have g0 : 0 ≤ (k : Int) := by omega
      have g1n : k < l.length := hlt
      have hkb : k ≤ 1000000 := by have := HL.out; omega
      have HLT := Lib.hid hlt
      obtain ⟨bA, oA, u, bv, rfl, c0, c1, c2, c3, c4, c5, hu, hbv⟩ := (HV.out.ext hext).at_ hlt
      have HS := Lib.hid (loopAt_s l hlt HP.out)
      have HT := Lib.hid (fun h9 => loopAt_hit l hlt HP.out h9)
      generalize l[k] = x at *
      obtain ⟨op, ins, kind, fa, a, body⟩ := x
      simp only [Nd.op, Nd.kind, Nd.fa, Nd.a, Nd.ins, Nd.body] at c0 c1 c2 c3 c4 c5 hu hbv
      replace HS := Lib.hid (show loopAt (l.take (k + 1)) = if op = 9 then (k : Int) else -1 from HS.out)
      replace HT := Lib.hid (show op = 9 → loopAt l = (k : Int) from HT.out)
      have HC := Lib.hid (isLoop_any op kind fa a u bv wr)
      obtain ⟨Au, cu, rfl⟩ := hu.form
      obtain ⟨Ab, cb, rfl⟩ := hbv.form
      clear hext hk hlt hu hbv
      by_cases h9 : op = 9
      · have HR := Lib.hid (HT.out h9)
        subst h9
        go_wp2_with fail
        refine HC.out.mono ?_
        rintro e w1 ⟨rfl, he1⟩
        go_wp2
        go_ret
        exact ⟨by rw [HR.out]; rfl, HE.out.trans he1⟩
      · rw [if_neg h9] at HS
        have hb : (op == 9) = false := by simpa using h9
        rw [hb] at HC
        clear h9 hb HT
        go_wp2_with fail
        refine HC.out.mono ?_
        rintro e w1 ⟨rfl, he1⟩
        go_wp2
        exact ⟨⟨k + 1, HLT.out, by go_num, HS.out, HE.out.trans he1⟩, by have := HLT.out; simp [intOf]; omega⟩
    · obtain rfl : k = l.length := by omega
      have g1 : ¬ (l.length : Int) < (l.length : Int) := by omega
      rw [List.take_length] at HP
      clear hext
      go_wp2
      go_ret
      exact ⟨by rw [HP.out]; rfl, HE.out⟩
def loopI (g : G) : Int := if gOk g = true then max (loopAt g.1) 0 else 0
def loopB (g : G) : Bool := gOk g && decide (0 ≤ loopAt g.1)
theorem gOk_len {g : G} (h : gOk g = true) : g.1.length ≤ 32 := by
  unfold gOk listOk at h
  simp only [Bool.and_eq_true, decide_eq_true_eq] at h
  omega
set_option maxHeartbeats 2000000 in
theorem gLoop_any (d : Nat) (v : Value) (l : List Nd) (out : Int) (w : World) (hv : NodesR d w v l) :
    Calls Try.prog 29 #[gAg v out] w fun e w' => e = .returned (.tuple #[.int .i64 (loopI (l, out)), .bool (loopB (l, out))]) ∧ Ext w w' := by
  obtain ⟨A, c, rfl⟩ := hv.form
  have HX0 := Lib.hid ((Ext.refl w).alloc (gCs (.slice A l.length c) out))
  have HB0 := Lib.hid (Blk.new w 24 #[.slice A l.length c, .int .i64 out])
  have HV := Lib.hid (hv.ext HX0.out)
  have HCK := Lib.hid (fun w h => gCheck_any d (.slice A l.length c) l out w h)
  have HIX := Lib.hid (fun w h hl => indexN_any d (.slice A l.length c) l w h hl)
  have HLR := Lib.hid (loopAt_range l)
  have HI := Lib.hid (show loopI (l, out) = if gOk (l, out) = true then max (loopAt l) 0 else 0 from rfl)
  have HB := Lib.hid (show loopB (l, out) = (gOk (l, out) && decide (0 ≤ loopAt l)) from rfl)
  have H32 := Lib.hid (show gOk (l, out) = true → l.length ≤ 32 from fun h => gOk_len h)
  have HGE := Lib.hid (show gE (l, out) = if gOk (l, out) = true then 0 else 170 from rfl)
  generalize loopI (l, out) = RI at *
  generalize loopB (l, out) = RB at *
  generalize gE (l, out) = E at *
  generalize gOk (l, out) = ok at *
  generalize loopAt l = la at *
  clear hv
  go_enter Try.func29, Try.ntmps29
  go_upto_region 1 with fail
  generalize w.heap.size = p at *
  generalize w.alloc (gCs (.slice A l.length c) out) = w0 at *
  have c0 : w0.cell? ⟨p, 0, none⟩ = some (.slice A l.length c) := HB0.out.cell 0
  have c1 : w0.cell? ⟨p, 1, none⟩ = some (.int .i64 out) := HB0.out.cell 1
  go_wp2_with fail
  refine (HCK.out _ HV.out).mono ?_
  rintro e w1 ⟨rfl, he1⟩
  have HX1 := Lib.hid (HX0.out.trans he1)
  have HV1 := Lib.hid (HV.out.ext he1)
  have c0 := he1.cell c0
  clear he1 c1
  cases ok with
  | false =>
    have HE := Lib.hid (show E = 170 from HGE.out)
    have H1 := Lib.hid (show RI = 0 from HI.out)
    have H2 := Lib.hid (show RB = false from HB.out)
    obtain rfl := HE.out
    go_wp2
    go_ret2
    exact ⟨by rw [H1.out, H2.out]; rfl, HX1.out⟩
  | true =>
    have HE := Lib.hid (show E = 0 from HGE.out)
    have H1 := Lib.hid (show RI = max la 0 from HI.out)
    have H2 := Lib.hid (show RB = decide (0 ≤ la) from HB.out)
    have H3 := Lib.hid (H32.out rfl)
    obtain rfl := HE.out
    go_wp2_with fail
    refine (HIX.out _ HV1.out (by have := H3.out; omega)).mono ?_
    rintro e w2 ⟨rfl, he2⟩
    have HX2 := Lib.hid (HX1.out.trans he2)
    clear he2 c0
    go_wp2
    go_ret2
    exact ⟨by rw [H1.out, H2.out]; rfl, HX2.out⟩
set_option maxHeartbeats 2000000 in
theorem rLoop_any (d : Nat) (v : Value) (l : List Nd) (out : Int) (w : World) (hv : NodesR d w v l) (hl : l.length ≤ 1000000) :
    Calls Try.prog 15 #[gAg v out] w fun e w' => e = .returned (.int .i64 (loopAt l)) ∧ Ext w w' := by
  obtain ⟨A, c, rfl⟩ := hv.form
  have HX0 := Lib.hid ((Ext.refl w).alloc (gCs (.slice A l.length c) out))
  have HB0 := Lib.hid (Blk.new w 24 #[.slice A l.length c, .int .i64 out])
  have HV := Lib.hid (hv.ext HX0.out)
  have HL := Lib.hid hl
  clear hv hl
  go_enter Try.func15, Try.ntmps15
  go_upto_region 1 with fail
  generalize w.heap.size = p at *
  generalize w.alloc (gCs (.slice A l.length c) out) = w0 at *
  go_wp2
  go_loopw [3] (fun iv wr => ∃ k : Nat, k ≤ l.length ∧ iv = .int .i64 (k : Int) ∧ loopAt (l.take k) = -1 ∧ w0 = wr) (fun iv _ => l.length - (intOf iv).toNat)
  case atStart => exact ⟨0, Nat.zero_le _, rfl, rfl, rfl⟩
  case round =>
    obtain ⟨k, hk, rfl, hp, rfl⟩ := hrel
    have c0 : w0.cell? ⟨p, 0, none⟩ = some (.slice A l.length c) := HB0.out.cell 0
    have HP := Lib.hid hp
    clear hp
    by_cases hlt : k < l.length
    · have g1 : (k : Int) < (l.length : Int) := by omega
      have g0 : 0 ≤ (k : Int) := by omega
      have g1n : k < l.length := hlt
      have hkb : k ≤ 1000000 := by have := HL.out; omega
      have HLT := Lib.hid hlt
      obtain ⟨bA, oA, u, bv, rfl, e0, e1, e2, e3, e4, e5, hu, hbv⟩ := HV.out.at_ hlt
      have HS := Lib.hid (loopAt_s l hlt HP.out)
      have HT := Lib.hid (fun h9 => loopAt_hit l hlt HP.out h9)
      generalize l[k] = x at *
      obtain ⟨op, ins, kind, fa, a, body⟩ := x
      simp only [Nd.op, Nd.kind, Nd.fa, Nd.a, Nd.ins, Nd.body] at e0 e1 e2 e3 e4 e5 hu hbv
      replace HS := Lib.hid (show loopAt (l.take (k + 1)) = if op = 9 then (k : Int) else -1 from HS.out)
      replace HT := Lib.hid (show op = 9 → loopAt l = (k : Int) from HT.out)
      clear hk hlt hu hbv e1 e2 e3 e4 e5
      by_cases h9 : op = 9
      · have HR := Lib.hid (HT.out h9)
        subst h9
        go_wp2
        go_ret
        exact ⟨by rw [HR.out]; rfl, HX0.out⟩
      · rw [if_neg h9] at HS
        clear HT
        go_wp2
        exact ⟨⟨k + 1, HLT.out, by go_num, HS.out, by first | rfl | trivial⟩, by have := HLT.out; simp [intOf]; omega⟩
    · obtain rfl : k = l.length := by omega
      have g1 : ¬ (l.length : Int) < (l.length : Int) := by omega
      rw [List.take_length] at HP
      go_wp2
      go_ret
      exact ⟨by rw [HP.out]; rfl, HX0.out⟩
end Go.Proofs.Ytcacicgkebcdkaa
namespace Go.Proofs.Ytcacicgkebcdkaa
open Go.RowKit Go.Ox Go.Ox.Gr
attribute [local irreducible] RE OE NodesR
theorem elemPl : Elem Try.prog 31 26 (.agg #[.int .i64 0, .int .i64 0]) 2 16 := Elem.mk' Try.underlying31 (by kernel_rfl) rfl (by omega)
theorem cell_grown {w w' : World} {row : Option Nat} {b o : Nat} {v : Value} (hg : w.grownBy w' row) (h : w.cell? ⟨b, o, none⟩ = some v) (hr : row ≠ some b) : w'.cell? ⟨b, o, none⟩ = some v := by
  have h1 := (ExtQ.grown (Q := fun k => k ≠ b) hg (fun g hg e => hr (by rw [hg, e]))).block b (World.block_lt_of_cell? w _ h) (fun h => h rfl)
  rw [← h]
  simp [World.cell?, h1]
theorem plFrom_len : ∀ (l : List Nd) (i : Nat), (∀ n ∈ l, n.body.length ≤ 100) → (plFrom l i).length ≤ l.length * 101
  | [], _, _ => by simp [plFrom]
  | n :: l, i, h => by
    have h1 := plFrom_len l (i + 1) fun m hm => h m (List.mem_cons_of_mem _ hm)
    have h2 := h n List.mem_cons_self
    unfold plFrom
    rw [List.length_append, plN_len, List.length_cons]
    omega
theorem places_len (l : List Nd) (k : Nat) (h : ∀ n ∈ l, n.body.length ≤ 100) (hl : l.length ≤ 100) : (places (l.take k)).length ≤ 10100 := by
  have := plFrom_len (l.take k) 0 fun n hn => h n (List.mem_of_mem_take hn)
  rw [List.length_take] at this
  unfold places
  omega
set_option maxHeartbeats 4000000 in
theorem rPlaces_any (d : Nat) (v : Value) (l : List Nd) (out : Int) (w : World) (hv : NodesR d w v l) (hl : l.length ≤ 100) (hbl : ∀ n ∈ l, n.body.length ≤ 100) :
    Calls Try.prog 17 #[gAg v out] w fun e w' => ∃ u, e = .returned u ∧ OE 26 w.heap.size w' u (places l) ∧ Ext w w' := by
  obtain ⟨A, c, rfl⟩ := hv.form
  have HX0 := Lib.hid ((Ext.refl w).alloc (gCs (.slice A l.length c) out))
  have HB0 := Lib.hid (Blk.new w 24 #[.slice A l.length c, .int .i64 out])
  have HV := Lib.hid (hv.ext HX0.out)
  have HL := Lib.hid hl
  have HBL := Lib.hid (fun (k : Nat) (h : k < l.length) => hbl l[k] (List.getElem_mem h))
  have HPL := Lib.hid (fun k => places_len l k hbl hl)
  clear hv hl hbl
  go_enter Try.func17, Try.ntmps17
  go_upto_region 1 with fail
  obtain ⟨p, hp⟩ : ∃ p, p = w.heap.size := ⟨_, rfl⟩
  rw [← hp] at HB0 ⊢
  have HPS := Lib.hid hp
  clear hp
  generalize w.alloc (gCs (.slice A l.length c) out) = w0 at *
  have HX1 := HX0
  have HB1 := HB0
  have HV1 := HV
  clear HX0 HB0 HV
  obtain ⟨w1, hw1⟩ : ∃ w1, w1 = w0 := ⟨_, rfl⟩
  subst hw1
  go_wp2
  go_loopw [3, 4] (fun o iv wr => ∃ k : Nat, k ≤ l.length ∧ iv = .int .i64 (k : Int) ∧ OE 26 w1.heap.size wr o (places (l.take k)) ∧ Ext w1 wr) (fun _ iv _ => l.length - (intOf iv).toNat)
  case atStart => exact ⟨0, Nat.zero_le _, rfl, OE.nilS _ _ _, Ext.refl _⟩
  case round =>
    obtain ⟨k, hk, rfl, ho, hext⟩ := hrel
    have HE := Lib.hid hext
    have HO := Lib.hid ho
    have HPK := Lib.hid (HPL.out k)
    obtain ⟨AO, cO, hvo⟩ := ho.re.form
    have hk100 : k ≤ 100 := by have := HL.out; omega
    by_cases hlt : k < l.length
    · have q1 : (k : Int) < (l.length : Int) := by omega
      have q0 : 0 ≤ (k : Int) := by omega
      have q1n : k < l.length := hlt
      have HLT := Lib.hid hlt
      obtain ⟨bA, oA, u, bv, rfl, e0, e1, e2, e3, e4, e5, hu, hbv⟩ := HV1.out.at_ hlt
      have HS := Lib.hid (places_s l hlt)
      have HBK := Lib.hid (HBL.out k hlt)
      have HPK1 := Lib.hid (HPL.out (k + 1))
      rw [HS.out] at HPK1
      generalize l[k] = x at *
      obtain ⟨op, ins, kind, fa, a, body⟩ := x
      simp only [Nd.op, Nd.kind, Nd.fa, Nd.a, Nd.ins, Nd.body] at e0 e1 e2 e3 e4 e5 hu hbv
      replace HS := Lib.hid (show places (l.take (k + 1)) = places (l.take k) ++ plN k body.length from HS.out)
      replace HBK := Lib.hid (show body.length ≤ 100 from HBK.out)
      replace HPK1 := Lib.hid (show (places (l.take k) ++ plN k body.length).length ≤ 10100 from HPK1.out)
      obtain ⟨Au, cu, rfl⟩ := hu.form
      obtain ⟨Ab, cb, rfl⟩ := hbv.form
      generalize places (l.take k) = pl at *
      subst hvo
      have HE5 := Lib.hid e5
      have c0 : wr.cell? ⟨p, 0, none⟩ = some (.slice (some ⟨bA, oA, none⟩) l.length c) := (HB1.out.ext hext).cell 0
      have HL1 := Lib.hid (RE.lit wr #[.int .i64 (k : Int), .int .i64 (-1)] 26 1 [((k : Int), (-1 : Int))] rfl (by omega) rfl)
      have HXA := Lib.hid ((Ext.refl wr).alloc (.cells #[.int .i64 (k : Int), .int .i64 (-1)] 26))
      have HOL := Lib.hid ((HO.out).ext HXA.out)
      have HXB := Lib.hid ((HE.out).trans HXA.out)
      clear ho hext hlt hk hu hbv e0 e1 e2 e3 e4 e5
      go_wp2_with (at_builtin; refine wpList_appE rfl elemPl _ _ _ rfl w1.heap.size _ _ pl [((k : Int), (-1 : Int))] rfl HOL.out rfl HL1.out (by have := HPK.out; simp; omega) (by have := HPK.out; unfold maxLen; simp; omega) HXB.out.size ?_; intro v7 w7 ho7 hg7 hat7)
      have HX7 := Lib.hid (HXB.out.grown hat7 fun g hg => (HOL.out.own.lt g hg).1)
      have HO7 := Lib.hid ho7
      clear c0 hg7 hat7 HOL HL1 HXA HXB HO HE
      go_wp2
      go_loopw [3, 5] (fun o iv wx => ∃ j : Nat, j ≤ body.length ∧ iv = .int .i64 (j : Int) ∧ OE 26 w1.heap.size wx o (pl ++ plN k j) ∧ Ext w1 wx) (fun _ iv _ => body.length - (intOf iv).toNat)
      case atStart => exact ⟨0, Nat.zero_le _, rfl, HO7.out, HX7.out⟩
      case round =>
        obtain ⟨j, hj, rfl, ho, hext⟩ := hrel
        rename World => wx
        have HE := Lib.hid hext
        have HO := Lib.hid ho
        obtain ⟨AP, cP, hvo⟩ := ho.re.form
        have hj100 : j ≤ 100 := by have := HBK.out; omega
        have c0 : wx.cell? ⟨p, 0, none⟩ = some (.slice (some ⟨bA, oA, none⟩) l.length c) := (HB1.out.ext hext).cell 0
        have e5 := hext.cell HE5.out
        by_cases hlt : j < body.length
        · have r1 : (j : Int) < (body.length : Int) := by omega
          have HJT := Lib.hid hlt
          have HSJ := Lib.hid (plN_s k j)
          have HPJ := Lib.hid (show (pl ++ plN k j).length ≤ 10100 by have h1 := HPK1.out; rw [List.length_append, plN_len] at h1 ⊢; omega)
          have HAS := Lib.hid (show pl ++ plN k (j + 1) = (pl ++ plN k j) ++ [((k : Int), (j : Int))] by rw [HSJ.out, List.append_assoc])
          generalize pl ++ plN k j = pj at *
          subst hvo
          have HL1 := Lib.hid (RE.lit wx #[.int .i64 (k : Int), .int .i64 (j : Int)] 26 1 [((k : Int), (j : Int))] rfl (by omega) rfl)
          have HXA := Lib.hid ((Ext.refl wx).alloc (.cells #[.int .i64 (k : Int), .int .i64 (j : Int)] 26))
          have HOL := Lib.hid (ho.ext HXA.out)
          have HXB := Lib.hid (HE.out.trans HXA.out)
          clear ho hext hlt hj
          go_wp2_with (at_builtin; refine wpList_appE rfl elemPl _ _ _ rfl w1.heap.size _ _ pj [((k : Int), (j : Int))] rfl HOL.out rfl HL1.out (by have := HPJ.out; simp; omega) (by have := HPJ.out; unfold maxLen; simp; omega) HXB.out.size ?_; intro v8 w8 ho8 hg8 hat8)
          have HX8 := Lib.hid (HXB.out.grown hat8 fun g hg => (HOL.out.own.lt g hg).1)
          have HO8 := Lib.hid ho8
          clear hg8 hat8 ho8
          go_wp2
          exact ⟨⟨j + 1, HJT.out, by go_num, by rw [HAS.out]; exact HO8.out, HX8.out⟩, by have := HJT.out; simp [intOf]; omega⟩
        · obtain rfl : j = body.length := by omega
          have r1 : ¬ (body.length : Int) < (body.length : Int) := by omega
          clear ho hext hj hlt
          go_wp2
          exact ⟨⟨k + 1, HLT.out, by go_num, by rw [HS.out]; exact HO.out, HE.out⟩, by have := HLT.out; simp [intOf]; omega⟩
    · obtain rfl : k = l.length := by omega
      have q1 : ¬ (l.length : Int) < (l.length : Int) := by omega
      rw [List.take_length] at HO
      have HOF := Lib.hid (HO.out.low (show p ≤ w1.heap.size from Nat.le_of_lt HB1.out.lt))
      have c0 : wr.cell? ⟨p, 0, none⟩ = some (.slice A l.length c) := (HB1.out.ext hext).cell 0
      clear ho hext hk hlt hvo
      go_wp2
      go_ret
      exact ⟨_, rfl, by rw [← HPS.out]; exact HOF.out, HX1.out.trans HE.out⟩
set_option maxHeartbeats 4000000 in
theorem gPlaces_ok (d : Nat) (v : Value) (l : List Nd) (out : Int) (w : World) (hv : NodesR d w v l) (hl : l.length ≤ 100) (hbl : ∀ n ∈ l, n.body.length ≤ 100) (hok : gOk (l, out) = true) :
    Calls Try.prog 27 #[gAg v out] w fun e w' => ∃ u, e = .returned u ∧ OE 26 w.heap.size w' u (places l) ∧ Ext w w' := by
  obtain ⟨A, c, rfl⟩ := hv.form
  have HX0 := Lib.hid ((Ext.refl w).alloc (gCs (.slice A l.length c) out))
  have HB0 := Lib.hid (Blk.new w 24 #[.slice A l.length c, .int .i64 out])
  have HV := Lib.hid (hv.ext HX0.out)
  have HL := Lib.hid hl
  have HBL := Lib.hid (fun (k : Nat) (h : k < l.length) => hbl l[k] (List.getElem_mem h))
  have HPL := Lib.hid (fun k => places_len l k hbl hl)
  have HCK := Lib.hid (fun w h => gCheck_any d (.slice A l.length c) l out w h)
  rw [show gE (l, out) = 0 from if_pos hok] at HCK
  clear hok
  clear hv hl hbl
  go_enter Try.func27, Try.ntmps27
  go_upto_region 1 with fail
  obtain ⟨p, hp⟩ : ∃ p, p = w.heap.size := ⟨_, rfl⟩
  rw [← hp] at HB0 ⊢
  have HPS := Lib.hid hp
  clear hp
  generalize w.alloc (gCs (.slice A l.length c) out) = w0 at *
  have c0 : w0.cell? ⟨p, 0, none⟩ = some (.slice A l.length c) := HB0.out.cell 0
  have c1 : w0.cell? ⟨p, 1, none⟩ = some (.int .i64 out) := HB0.out.cell 1
  go_wp2_with fail
  refine (HCK.out _ HV.out).mono ?_
  rintro e w1 ⟨rfl, he1⟩
  have HX1 := Lib.hid (HX0.out.trans he1)
  have HB1 := Lib.hid (HB0.out.ext he1)
  have HV1 := Lib.hid (HV.out.ext he1)
  have c0 := he1.cell c0
  clear he1 c1
  go_wp2
  clear c0
  go_loopw [3, 13] (fun o iv wr => ∃ k : Nat, k ≤ l.length ∧ iv = .int .i64 (k : Int) ∧ OE 26 w1.heap.size wr o (places (l.take k)) ∧ Ext w1 wr) (fun _ iv _ => l.length - (intOf iv).toNat)
  case atStart => exact ⟨0, Nat.zero_le _, rfl, OE.nilS _ _ _, Ext.refl _⟩
  case round =>
    obtain ⟨k, hk, rfl, ho, hext⟩ := hrel
    have HE := Lib.hid hext
    have HO := Lib.hid ho
    have HPK := Lib.hid (HPL.out k)
    obtain ⟨AO, cO, hvo⟩ := ho.re.form
    have hk100 : k ≤ 100 := by have := HL.out; omega
    by_cases hlt : k < l.length
    · have q1 : (k : Int) < (l.length : Int) := by omega
      have q0 : 0 ≤ (k : Int) := by omega
      have q1n : k < l.length := hlt
      have HLT := Lib.hid hlt
      obtain ⟨bA, oA, u, bv, rfl, e0, e1, e2, e3, e4, e5, hu, hbv⟩ := HV1.out.at_ hlt
      have HS := Lib.hid (places_s l hlt)
      have HBK := Lib.hid (HBL.out k hlt)
      have HPK1 := Lib.hid (HPL.out (k + 1))
      rw [HS.out] at HPK1
      generalize l[k] = x at *
      obtain ⟨op, ins, kind, fa, a, body⟩ := x
      simp only [Nd.op, Nd.kind, Nd.fa, Nd.a, Nd.ins, Nd.body] at e0 e1 e2 e3 e4 e5 hu hbv
      replace HS := Lib.hid (show places (l.take (k + 1)) = places (l.take k) ++ plN k body.length from HS.out)
      replace HBK := Lib.hid (show body.length ≤ 100 from HBK.out)
      replace HPK1 := Lib.hid (show (places (l.take k) ++ plN k body.length).length ≤ 10100 from HPK1.out)
      obtain ⟨Au, cu, rfl⟩ := hu.form
      obtain ⟨Ab, cb, rfl⟩ := hbv.form
      generalize places (l.take k) = pl at *
      subst hvo
      have HE5 := Lib.hid e5
      have e0 := hext.cell e0
      have e1 := hext.cell e1
      have e2 := hext.cell e2
      have e3 := hext.cell e3
      have e4 := hext.cell e4
      have e5 := hext.cell e5
      have hxn := (Ext.refl wr).alloc (ndCs op kind fa a (.slice Au ins.length cu) (.slice Ab body.length cb))
      obtain ⟨y0, y1, y2, y3, y4, y5⟩ := (Bx6.new wr 45 (.int .i64 op) (.slice Au ins.length cu) (.int .i64 kind) (.int .i64 fa) (.int .i64 a) (.slice Ab body.length cb)).at_
      have HXN := Lib.hid (HE.out.trans hxn)
      have HON := Lib.hid (ho.ext hxn)
      have HQS := Lib.hid (show wr.heap.size < (wr.alloc (ndCs op kind fa a (.slice Au ins.length cu) (.slice Ab body.length cb))).heap.size by simp)
      have HQO := Lib.hid (fun g hg => (ho.own.lt g hg).2)
      clear hxn y0 y1 y2 y3 y4
      go_upto_region 7 with fail
      clear e0 e1 e2 e3 e4 e5
      generalize wr.heap.size = q at *
      generalize wr.alloc (ndCs op kind fa a (.slice Au ins.length cu) (.slice Ab body.length cb)) = wn at *
      have HL1 := Lib.hid (RE.lit wn #[.int .i64 (k : Int), .int .i64 (-1)] 26 1 [((k : Int), (-1 : Int))] rfl (by omega) rfl)
      have HXA := Lib.hid ((Ext.refl wn).alloc (.cells #[.int .i64 (k : Int), .int .i64 (-1)] 26))
      have HOL := Lib.hid ((HON.out).ext HXA.out)
      have HXB := Lib.hid ((HXN.out).trans HXA.out)
      clear ho hext hlt hk hu hbv
      have y5 := HXA.out.cell y5
      go_wp2_with (at_builtin; refine wpList_appE rfl elemPl _ _ _ rfl w1.heap.size _ _ pl [((k : Int), (-1 : Int))] rfl HOL.out rfl HL1.out (by have := HPK.out; simp; omega) (by have := HPK.out; unfold maxLen; simp; omega) HXB.out.size ?_; intro v7 w7 ho7 hg7 hat7; have z5 := cell_grown hat7 y5 (fun e => by have := HQO.out _ e; omega))
      have HX7 := Lib.hid (HXB.out.grown hat7 fun g hg => (HOL.out.own.lt g hg).1)
      have HO7 := Lib.hid ho7
      clear hg7 hat7 HOL HL1 HXA HXB HO HON HE HXN HQS HQO
      clear y5
      go_wp2
      clear z5
      go_loopw [3, 26] (fun o iv wx => ∃ j : Nat, j ≤ body.length ∧ iv = .int .i64 (j : Int) ∧ OE 26 w1.heap.size wx o (pl ++ plN k j) ∧ Ext w1 wx) (fun _ iv _ => body.length - (intOf iv).toNat)
      case atStart => exact ⟨0, Nat.zero_le _, rfl, HO7.out, HX7.out⟩
      case round =>
        obtain ⟨j, hj, rfl, ho, hext⟩ := hrel
        rename World => wx
        have HE := Lib.hid hext
        have HO := Lib.hid ho
        obtain ⟨AP, cP, hvo⟩ := ho.re.form
        have hj100 : j ≤ 100 := by have := HBK.out; omega
        by_cases hlt : j < body.length
        · have r1 : (j : Int) < (body.length : Int) := by omega
          have HJT := Lib.hid hlt
          have HSJ := Lib.hid (plN_s k j)
          have HPJ := Lib.hid (show (pl ++ plN k j).length ≤ 10100 by have h1 := HPK1.out; rw [List.length_append, plN_len] at h1 ⊢; omega)
          have HAS := Lib.hid (show pl ++ plN k (j + 1) = (pl ++ plN k j) ++ [((k : Int), (j : Int))] by rw [HSJ.out, List.append_assoc])
          generalize pl ++ plN k j = pj at *
          subst hvo
          have HL1 := Lib.hid (RE.lit wx #[.int .i64 (k : Int), .int .i64 (j : Int)] 26 1 [((k : Int), (j : Int))] rfl (by omega) rfl)
          have HXA := Lib.hid ((Ext.refl wx).alloc (.cells #[.int .i64 (k : Int), .int .i64 (j : Int)] 26))
          have HOL := Lib.hid (ho.ext HXA.out)
          have HXB := Lib.hid (HE.out.trans HXA.out)
          clear ho hext hlt hj
          go_wp2_with (at_builtin; refine wpList_appE rfl elemPl _ _ _ rfl w1.heap.size _ _ pj [((k : Int), (j : Int))] rfl HOL.out rfl HL1.out (by have := HPJ.out; simp; omega) (by have := HPJ.out; unfold maxLen; simp; omega) HXB.out.size ?_; intro v8 w8 ho8 hg8 hat8)
          have HX8 := Lib.hid (HXB.out.grown hat8 fun g hg => (HOL.out.own.lt g hg).1)
          have HO8 := Lib.hid ho8
          clear hg8 hat8 ho8
          go_wp2
          exact ⟨⟨j + 1, HJT.out, by go_num, by rw [HAS.out]; exact HO8.out, HX8.out⟩, by have := HJT.out; simp [intOf]; omega⟩
        · obtain rfl : j = body.length := by omega
          have r1 : ¬ (body.length : Int) < (body.length : Int) := by omega
          clear ho hext hj hlt
          go_wp2
          exact ⟨⟨k + 1, HLT.out, by go_num, by rw [HS.out]; exact HO.out, HE.out⟩, by have := HLT.out; simp [intOf]; omega⟩
    · obtain rfl : k = l.length := by omega
      have q1 : ¬ (l.length : Int) < (l.length : Int) := by omega
      rw [List.take_length] at HO
      have HOF := Lib.hid (HO.out.low (show p ≤ w1.heap.size from Nat.le_of_lt HB1.out.lt))
      clear ho hext hk hlt hvo
      go_wp2
      go_ret
      exact ⟨_, rfl, by rw [← HPS.out]; exact HOF.out, HX1.out.trans HE.out⟩
end Go.Proofs.Ytcacicgkebcdkaa
