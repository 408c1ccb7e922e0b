/-
  LaParse, packed: what the claim needs of them.
-/
import Derived.Test.YtpmgmiiidfconaaGreatDoorPz34
import Derived.Test.YtpmgmiiidfconaaGreatDoorPz36
import Derived.Test.YtpmgmiiidfconaaGreatDoorPz18
set_option linter.unusedVariables false
set_option linter.unusedSimpArgs false
namespace Go.Proofs.YtpmgmiiidfconaaGreatDoor
open Go.RowKit Go.Ox Go.Ox.Gr Go.Ox.Sc Go.Ox.La Go.Shelf
/-- the tables that the parser reads -/
structure Ptb (w : World) : Prop where
  t : Tab w
  o : OpsT w
  f : FnsT w
  m : MaxL w
theorem Ptb.ext {w w' : World} (h : Ptb w) (he : Ext w w') : Ptb w' := ⟨h.t.ext he, h.o.ext he, h.f.ext he, h.m.ext he⟩
abbrev ParseS := Nat → Nat → Nat → World → Prop
/-- a line that is taken -/
def LineOk (L : List W) (PS : ParseS) (i : Nat) (hi : i < L.length) : Prop :=
  ∀ p C W0 W q, p < C → C ≤ W0.heap.size → PS i p C W0 → Ptb W0 → WsR 60 W0 W q (wordsL L[i]) false → q < W.heap.size →
    Calls Tryz.prog 33 #[.pointer (some ⟨p, 0, none⟩), .pointer (some ⟨q, 0, none⟩)] W fun e w' => e = .returned (.bool true) ∧ PS (i + 1) p C w' ∧ ExtQ (fun k => k = p ∨ C ≤ k) W w'
/-- a line that is not -/
def LineBad (L : List W) (PS : ParseS) (i : Nat) (hi : i < L.length) : Prop :=
  ∀ p C W0 W q, p < C → C ≤ W0.heap.size → PS i p C W0 → Ptb W0 → WsR 60 W0 W q (wordsL L[i]) false → q < W.heap.size →
    Calls Tryz.prog 33 #[.pointer (some ⟨p, 0, none⟩), .pointer (some ⟨q, 0, none⟩)] W fun e w' => e = .returned (.bool false) ∧ ExtQ (fun k => k = p ∨ C ≤ k) W w'
structure TextOk (L : List W) : Prop where
  nl : ∀ l ∈ L, (10 : UInt8) ∉ l
  wd : ∀ l ∈ L, wordsL l ≠ []
  ln : ∀ l ∈ L, l.length ≤ 3000
  n : L.length ≤ 1000
  s : (linesT L).length ≤ 65536
structure StateOk (PS : ParseS) : Prop where
  z : ∀ p C W, Blk W p 87 (paCs 0 0 0 0 (.slice none 0 0) 0 (.slice none 0 0) (.slice none 0 0) 0) → p < C → C ≤ W.heap.size → PS 0 p C W
  e : ∀ i p C W W', PS i p C W → Ext W W' → PS i p C W'
abbrev zSc (k0 k1 k2 k3 : Int) (nv : Value) (out : Int) (iv av : Value) : Value := .agg #[.int .i64 k0, .int .i64 k1, .int .i64 k2, .int .i64 k3, nv, .int .i64 out, iv, av]
attribute [local irreducible] RE OE wordsL GlT RP OP EpR InsR ActsR NodesR linesT
set_option maxRecDepth 100000 in
set_option maxHeartbeats 16000000 in
theorem parse_bad (L : List W) (PS : ParseS) (m : Nat) (w : World) (hL : TextOk L) (hS : StateOk PS) (ht : Ptb w) (hok : ∀ i, i < m → ∀ hi : i < L.length, LineOk L PS i hi) (hm : m < L.length) (hbad : LineBad L PS m hm) :
    Calls Tryz.prog 13 #[strV (linesT L)] w fun e w' => e = .returned (.tuple #[zSc 0 0 0 0 (.slice none 0 0) 0 (.slice none 0 0) (.slice none 0 0), .int .i64 ((m : Int) + 1), .int .i64 290]) ∧ Ext w w' := by
  obtain ⟨hnl, hwd, hln, hn, hs⟩ := hL
  obtain ⟨hz, hext⟩ := hS
  have HNL := Lib.hid hnl
  have HWD := Lib.hid hwd
  have HLN := Lib.hid hln
  have HN := Lib.hid hn
  have HS := Lib.hid hs
  have HZ := Lib.hid hz
  have HE := Lib.hid hext
  have HT := Lib.hid ht
  have HOK := Lib.hid hok
  have HM := Lib.hid hm
  have HBAD := Lib.hid (show ∀ h : m < L.length, LineBad L PS m h from fun _ => hbad)
  clear hnl hwd hln hn hs hz hext ht hok hm hbad
  obtain ⟨n, hn⟩ : ∃ n, n = L.length := ⟨_, rfl⟩
  have HLL := Lib.hid hn
  have q0 : (((linesT L).length : Int) > 65536) = False := by have := HS.out; simp; omega
  have q1 : ¬ (65536 : Int) < ((linesT L).length : Int) := by have := HS.out; omega
  have q2 : ¬ 65536 < (linesT L).length := by have := HS.out; omega
  obtain ⟨T, hT⟩ : ∃ T, linesT L = T := ⟨_, rfl⟩
  have HSP := Lib.hid (fun W h => split10_any L W HNL.out (by have := HS.out; omega) (by have := HN.out; omega) h)
  rw [hT] at HSP q0 q1 q2 ⊢
  rw [← hn] at HSP
  clear hT hn
  have HR0 := Lib.hid (Bx8.new w 43 (.int .i64 0) (.int .i64 0) (.int .i64 0) (.int .i64 0) (.slice none 0 0) (.int .i64 0) (.slice none 0 0) (.slice none 0 0))
  have HX0 := Lib.hid ((Ext.refl w).alloc (scCs (.int .i64 0) (.int .i64 0) (.int .i64 0) (.int .i64 0) (.slice none 0 0) 0 (.slice none 0 0) (.slice none 0 0)))
  obtain ⟨r, hr⟩ : ∃ r, r = w.heap.size := ⟨_, rfl⟩
  go_enter Tryz.func13, Tryz.ntmps13
  go_upto_region 1 with fail
  rw [← hr] at HR0 ⊢
  have HRL := Lib.hid (show w.heap.size ≤ r from by rw [hr]; exact Nat.le_refl _)
  clear hr
  generalize w.alloc (scCs (.int .i64 0) (.int .i64 0) (.int .i64 0) (.int .i64 0) (.slice none 0 0) 0 (.slice none 0 0) (.slice none 0 0)) = w1 at *
  have HP1 := Lib.hid (Blk.new w1 87 (paCs 0 0 0 0 (.slice none 0 0) 0 (.slice none 0 0) (.slice none 0 0) 0))
  have HX1 := Lib.hid ((Ext.refl w1).alloc (.cells (paCs 0 0 0 0 (.slice none 0 0) 0 (.slice none 0 0) (.slice none 0 0) 0) 87))
  obtain ⟨p, hp⟩ : ∃ p, p = w1.heap.size := ⟨_, rfl⟩
  go_upto_region 4 with fail
  have HPR := Lib.hid (show r < p ∧ p < (w1.alloc (.cells (paCs 0 0 0 0 (.slice none 0 0) 0 (.slice none 0 0) (.slice none 0 0) 0) 87)).heap.size from ⟨by rw [hp]; exact HR0.out.b.lt, by rw [hp]; exact HP1.out.lt⟩)
  rw [← hp] at HP1 ⊢
  clear hp q0 q1 q2
  generalize w1.alloc (.cells (paCs 0 0 0 0 (.slice none 0 0) 0 (.slice none 0 0) (.slice none 0 0) 0) 87) = w2 at *
  go_wp2_with fail
  refine (HSP.out w2 (HT.out.m.ext (HX0.out.trans HX1.out))).mono ?_
  rintro e w3 ⟨rfl, hls, he3⟩
  obtain ⟨b, hb⟩ : ∃ b, b = w2.heap.size := ⟨_, rfl⟩
  rw [← hb] at hls ⊢
  have HBL := Lib.hid (show p < b from by rw [hb]; exact HPR.out.2)
  clear hb
  have hlen9 : (L ++ [[]]).length = n + 1 := by rw [List.length_append, ← HLL.out]; rfl
  have hlast : w3.cell? ⟨b, n, none⟩ = some (strV []) := by
    obtain ⟨b9, o9, e9, h9⟩ := reW1 hls (k := n) (by rw [hlen9]; omega)
    injection e9 with e9
    injection e9 with e9 e8 _
    subst e9; subst e8
    rw [Nat.zero_add] at h9
    rw [h9]
    simp only [HLL.out]
    rw [List.getElem_append_right (Nat.le_refl _)]
    simp
  have hls2 : RE w3 (.slice (some ⟨b, 0, none⟩) (L ++ [[]]).length (n + 1)) (L ++ [[]]) := by rw [hlen9]; exact hls
  obtain ⟨hcut, hre⟩ := RE.hi (k := n) elemW hls2 (by rw [hlen9]; omega)
  rw [hlen9] at hcut
  rw [HLL.out, List.take_left, ← HLL.out] at hre
  have HLS := Lib.hid hre
  have HX3 := Lib.hid he3
  obtain ⟨n1, hn1⟩ : ∃ n1, n1 = n + 1 := ⟨_, rfl⟩
  rw [← hn1] at hcut ⊢
  have s1 : IntKind.i64.wrap ((n1 : Int) - 1) = (n : Int) := by
    have h2 := HN.out
    have h3 := HLL.out
    rw [show (n1 : Int) - 1 = (n : Int) by omega]
    exact IntWalk.i64_in _ (by omega)
  have s2 : (n : Int) < (n1 : Int) := by omega
  have s3 : n < n1 := by omega
  have b1 : ((⟨#[]⟩ : ByteArray) == ⟨#[]⟩) = true := rfl
  clear hls hls2 hlen9 hre he3 hn1
  have hlast : w3.cell? ⟨b, n, none⟩ = some (.string ⟨#[]⟩) := hlast
  have HBC := Lib.hid (show b < w3.heap.size from World.block_lt_of_cell? w3 _ hlast)
  go_upto_region 7 with fail
  clear hcut hlast s1 s2 s3 b1
  obtain ⟨C, hC⟩ : ∃ C, C = w3.heap.size := ⟨_, rfl⟩
  have HCC := Lib.hid (show b < C ∧ C = w3.heap.size from ⟨by rw [hC]; exact HBC.out, hC⟩)
  clear hC
  have HPS0 := Lib.hid (HZ.out p C w3 (HP1.out.ext HX3.out) (by have h1 := HBL.out; have h2 := HCC.out.1; omega) (by rw [HCC.out.2]; exact Nat.le_refl _))
  have HXW := Lib.hid (show ∀ wr, ExtQ (fun k => k = p ∨ C ≤ k) w3 wr → Ext w wr from fun wr hx => (HX0.out.trans (HX1.out.trans HX3.out)).andQ hx (fun k hk => by
    have h1 := HRL.out; have h2 := HPR.out; have h3 := HBL.out; have h4 := HCC.out.1
    rcases hk with hk | hk <;> omega))
  go_wp2
  go_loopw [33] (fun iv wr => ∃ i : Nat, i ≤ m ∧ iv = .int .i64 (i : Int) ∧ PS i p C wr ∧ ExtQ (fun k => k = p ∨ C ≤ k) w3 wr) (fun iv _ => m - (intOf iv).toNat)
  case atStart => exact ⟨0, Nat.zero_le _, rfl, HPS0.out, ExtQ.refl _ _⟩
  case round =>
    obtain ⟨i, hi, rfl, hps, hx⟩ := hrel
    rename World => wr
    have hiL : i < L.length := by have := HM.out; omega
    have HIL := Lib.hid hiL
    have HIM := Lib.hid hi
    have q1 : (i : Int) < (n : Int) := by have := HLL.out; omega
    have q1n : i < n := by have := HLL.out; omega
    have q0 : 0 ≤ (i : Int) := by omega
    have y0 : wr.cell? ⟨b, i, none⟩ = some (strV L[i]) := by
      obtain ⟨b9, o9, e9, h9⟩ := reW1 HLS.out hiL
      injection e9 with e9
      injection e9 with e9 e8 _
      subst e9; subst e8
      rw [Nat.zero_add] at h9
      exact (World.cell?_of_block (a := ⟨b, i, none⟩) (hx.block b (by rw [← HCC.out.2]; exact HCC.out.1) (fun e => by have h1 := HBL.out; have h4 := HCC.out.1; rcases e with e | e <;> omega))).trans h9
    have HPSI := Lib.hid hps
    have HXI := Lib.hid hx
    have HTI := Lib.hid (HT.out.ext (HXW.out wr hx))
    have HWI := Lib.hid (words_any L[i] wr (by have := HLN.out _ (List.getElem_mem hiL); omega) HTI.out.m)
    have HWN := Lib.hid (HWD.out _ (List.getElem_mem hiL))
    have HLI := Lib.hid (show (∀ h : i < m, LineOk L PS i hiL) ∧ (i = m → LineBad L PS i hiL) from ⟨fun h => HOK.out i h hiL, fun h => by subst h; exact HBAD.out _⟩)
    unfold LineOk LineBad at HLI
    generalize L[i] = x at *
    clear hi hiL hps hx
    go_wp2_with fail
    refine HWI.out.mono ?_
    rintro e w4 ⟨u, rfl, hou, he4⟩
    obtain ⟨Au, cu, rfl⟩ := hou.re.form
    generalize wordsL x = ws at *
    have HOU := Lib.hid hou
    have HE4 := Lib.hid he4
    obtain ⟨k, hk⟩ : ∃ k, k = ws.length := ⟨_, rfl⟩
    have HK := Lib.hid hk
    have k0 : (0 : Int) < (k : Int) := by
      have h1 : ws.length ≠ 0 := fun e => HWN.out (List.eq_nil_of_length_eq_zero e)
      omega
    have k1 : 0 < k := by omega
    have HWS := Lib.hid (show WsR 60 w4 (w4.alloc (.cells #[.slice Au k cu, .bool false] 60)) w4.heap.size ws false from ⟨Nat.le_refl _, (Ext.refl _).alloc _, Au, cu, by exact hou.re, by rw [← hk]; exact Blk.new _ _ _⟩)
    have HQS := Lib.hid (show w4.heap.size < (w4.alloc (.cells #[.slice Au k cu, .bool false] 60)).heap.size from by simp)
    have HPC := Lib.hid (show p < C ∧ C ≤ w4.heap.size from ⟨by have h1 := HBL.out; have h2 := HCC.out.1; omega, by have h1 := HXI.out.size; have h2 := he4.size; have h3 := HCC.out.2; omega⟩)
    have HX4 := Lib.hid (show ExtQ (fun k => k = p ∨ C ≤ k) w3 (w4.alloc (.cells #[.slice Au k cu, .bool false] 60)) from HXI.out.trans (ExtQ.of (he4.trans ((Ext.refl _).alloc _))))
    rw [← hk]
    have hi9 : i ≤ 1000 := by have h1 := HN.out; have h2 := HIL.out; omega
    clear hou he4 hk y0
    go_wp2_with fail
    by_cases him : i < m
    · refine (HLI.out.1 him p C w4 _ w4.heap.size HPC.out.1 HPC.out.2 (HE.out _ _ _ _ _ HPSI.out HE4.out) (HTI.out.ext HE4.out) HWS.out HQS.out).mono ?_
      rintro e w5 ⟨rfl, hps5, hx5⟩
      have HPS5 := Lib.hid hps5
      have HX5 := Lib.hid (HX4.out.trans hx5)
      clear hps5 hx5
      go_wp2
      exact ⟨⟨i + 1, him, by simp, HPS5.out, HX5.out⟩, by simp [intOf]; omega⟩
    · have him2 : i = m := by have := HIM.out; omega
      refine (HLI.out.2 him2 p C w4 _ w4.heap.size HPC.out.1 HPC.out.2 (HE.out _ _ _ _ _ HPSI.out HE4.out) (HTI.out.ext HE4.out) HWS.out HQS.out).mono ?_
      rintro e w5 ⟨rfl, hx5⟩
      have HX5 := Lib.hid (HX4.out.trans hx5)
      have HXX := Lib.hid (HXW.out _ HX5.out)
      have HR5 := Lib.hid (((HR0.out.ext (HX1.out.trans HX3.out)).b.extQ HX5.out (fun e => by have h1 := HPR.out; have h2 := HBL.out; have h3 := HCC.out.1; rcases e with e | e <;> omega)))
      have hr5 := HR5.out
      have c0 := hr5.cell 0
      have c1 := hr5.cell 1
      have c2 := hr5.cell 2
      have c3 := hr5.cell 3
      have c4 := hr5.cell 4
      have c5 := hr5.cell 5
      have c6 := hr5.cell 6
      have c7 := hr5.cell 7
      have f0 := hr5.frozen 0
      have f1 := hr5.frozen 1
      have f2 := hr5.frozen 2
      have f3 := hr5.frozen 3
      have f4 := hr5.frozen 4
      have f5 := hr5.frozen 5
      have f6 := hr5.frozen 6
      have f7 := hr5.frozen 7
      clear hx5 hr5
      go_wp2
      obtain ⟨y0, y1, y2, y3, y4, y5, y6, y7⟩ := (Bx8.set8 (v0 := .int .i64 0) (v1 := .int .i64 0) (v2 := .int .i64 0) (v3 := .int .i64 0) (v4 := .slice none 0 0) (v5 := .int .i64 0) (v6 := .slice none 0 0) (v7 := .slice none 0 0) (⟨HR5.out⟩ : Bx8 w5 r 43 (.int .i64 0) (.int .i64 0) (.int .i64 0) (.int .i64 0) (.slice none 0 0) (.int .i64 0) (.slice none 0 0) (.slice none 0 0))).at_
      have hxf := HXX.out.andQ (extQ_set8 (v0 := .int .i64 0) (v1 := .int .i64 0) (v2 := .int .i64 0) (v3 := .int .i64 0) (v4 := .slice none 0 0) (v5 := .int .i64 0) (v6 := .slice none 0 0) (v7 := .slice none 0 0) w5 r) (fun k hk => by have h1 := HRL.out; have hk : k = r := hk; omega)
      exact bodyPost_ret (v := .tuple #[zSc 0 0 0 0 (.slice none 0 0) 0 (.slice none 0 0) (.slice none 0 0), .int .i64 ((m : Int) + 1), .int .i64 290]) (by simp [results, Tryz.results13, go_sem, y0, y1, y2, y3, y4, y5, y6, y7]) rfl ⟨rfl, hxf⟩
set_option maxRecDepth 100000 in
set_option maxHeartbeats 16000000 in
theorem parse_short (L : List W) (PS : ParseS) (m : Nat) (w : World) (hL : TextOk L) (hS : StateOk PS) (ht : Ptb w) (hok : ∀ i, i < m → ∀ hi : i < L.length, LineOk L PS i hi) (hm : m = L.length) (hend : ∀ p C W, PS m p C W → ∃ k0 k1 k2 k3 nv out iv av at_, Blk W p 87 (paCs k0 k1 k2 k3 nv out iv av at_) ∧ at_ < 3) :
    Calls Tryz.prog 13 #[strV (linesT L)] w fun e w' => e = .returned (.tuple #[zSc 0 0 0 0 (.slice none 0 0) 0 (.slice none 0 0) (.slice none 0 0), .int .i64 ((m : Int) + 1), .int .i64 290]) ∧ Ext w w' := by
  obtain ⟨hnl, hwd, hln, hn, hs⟩ := hL
  obtain ⟨hz, hext⟩ := hS
  have HNL := Lib.hid hnl
  have HWD := Lib.hid hwd
  have HLN := Lib.hid hln
  have HN := Lib.hid hn
  have HS := Lib.hid hs
  have HZ := Lib.hid hz
  have HE := Lib.hid hext
  have HT := Lib.hid ht
  have HOK := Lib.hid hok
  have HM := Lib.hid hm
  have HEND := Lib.hid hend
  clear hnl hwd hln hn hs hz hext ht hok hm hend
  obtain ⟨n, hn⟩ : ∃ n, n = L.length := ⟨_, rfl⟩
  have HLL := Lib.hid hn
  have q0 : (((linesT L).length : Int) > 65536) = False := by have := HS.out; simp; omega
  have q1 : ¬ (65536 : Int) < ((linesT L).length : Int) := by have := HS.out; omega
  have q2 : ¬ 65536 < (linesT L).length := by have := HS.out; omega
  obtain ⟨T, hT⟩ : ∃ T, linesT L = T := ⟨_, rfl⟩
  have HSP := Lib.hid (fun W h => split10_any L W HNL.out (by have := HS.out; omega) (by have := HN.out; omega) h)
  rw [hT] at HSP q0 q1 q2 ⊢
  rw [← hn] at HSP
  clear hT hn
  have HR0 := Lib.hid (Bx8.new w 43 (.int .i64 0) (.int .i64 0) (.int .i64 0) (.int .i64 0) (.slice none 0 0) (.int .i64 0) (.slice none 0 0) (.slice none 0 0))
  have HX0 := Lib.hid ((Ext.refl w).alloc (scCs (.int .i64 0) (.int .i64 0) (.int .i64 0) (.int .i64 0) (.slice none 0 0) 0 (.slice none 0 0) (.slice none 0 0)))
  obtain ⟨r, hr⟩ : ∃ r, r = w.heap.size := ⟨_, rfl⟩
  go_enter Tryz.func13, Tryz.ntmps13
  go_upto_region 1 with fail
  rw [← hr] at HR0 ⊢
  have HRL := Lib.hid (show w.heap.size ≤ r from by rw [hr]; exact Nat.le_refl _)
  clear hr
  generalize w.alloc (scCs (.int .i64 0) (.int .i64 0) (.int .i64 0) (.int .i64 0) (.slice none 0 0) 0 (.slice none 0 0) (.slice none 0 0)) = w1 at *
  have HP1 := Lib.hid (Blk.new w1 87 (paCs 0 0 0 0 (.slice none 0 0) 0 (.slice none 0 0) (.slice none 0 0) 0))
  have HX1 := Lib.hid ((Ext.refl w1).alloc (.cells (paCs 0 0 0 0 (.slice none 0 0) 0 (.slice none 0 0) (.slice none 0 0) 0) 87))
  obtain ⟨p, hp⟩ : ∃ p, p = w1.heap.size := ⟨_, rfl⟩
  go_upto_region 4 with fail
  have HPR := Lib.hid (show r < p ∧ p < (w1.alloc (.cells (paCs 0 0 0 0 (.slice none 0 0) 0 (.slice none 0 0) (.slice none 0 0) 0) 87)).heap.size from ⟨by rw [hp]; exact HR0.out.b.lt, by rw [hp]; exact HP1.out.lt⟩)
  rw [← hp] at HP1 ⊢
  clear hp q0 q1 q2
  generalize w1.alloc (.cells (paCs 0 0 0 0 (.slice none 0 0) 0 (.slice none 0 0) (.slice none 0 0) 0) 87) = w2 at *
  go_wp2_with fail
  refine (HSP.out w2 (HT.out.m.ext (HX0.out.trans HX1.out))).mono ?_
  rintro e w3 ⟨rfl, hls, he3⟩
  obtain ⟨b, hb⟩ : ∃ b, b = w2.heap.size := ⟨_, rfl⟩
  rw [← hb] at hls ⊢
  have HBL := Lib.hid (show p < b from by rw [hb]; exact HPR.out.2)
  clear hb
  have hlen9 : (L ++ [[]]).length = n + 1 := by rw [List.length_append, ← HLL.out]; rfl
  have hlast : w3.cell? ⟨b, n, none⟩ = some (strV []) := by
    obtain ⟨b9, o9, e9, h9⟩ := reW1 hls (k := n) (by rw [hlen9]; omega)
    injection e9 with e9
    injection e9 with e9 e8 _
    subst e9; subst e8
    rw [Nat.zero_add] at h9
    rw [h9]
    simp only [HLL.out]
    rw [List.getElem_append_right (Nat.le_refl _)]
    simp
  have hls2 : RE w3 (.slice (some ⟨b, 0, none⟩) (L ++ [[]]).length (n + 1)) (L ++ [[]]) := by rw [hlen9]; exact hls
  obtain ⟨hcut, hre⟩ := RE.hi (k := n) elemW hls2 (by rw [hlen9]; omega)
  rw [hlen9] at hcut
  rw [HLL.out, List.take_left, ← HLL.out] at hre
  have HLS := Lib.hid hre
  have HX3 := Lib.hid he3
  obtain ⟨n1, hn1⟩ : ∃ n1, n1 = n + 1 := ⟨_, rfl⟩
  rw [← hn1] at hcut ⊢
  have s1 : IntKind.i64.wrap ((n1 : Int) - 1) = (n : Int) := by
    have h2 := HN.out
    have h3 := HLL.out
    rw [show (n1 : Int) - 1 = (n : Int) by omega]
    exact IntWalk.i64_in _ (by omega)
  have s2 : (n : Int) < (n1 : Int) := by omega
  have s3 : n < n1 := by omega
  have b1 : ((⟨#[]⟩ : ByteArray) == ⟨#[]⟩) = true := rfl
  clear hls hls2 hlen9 hre he3 hn1
  have hlast : w3.cell? ⟨b, n, none⟩ = some (.string ⟨#[]⟩) := hlast
  have HBC := Lib.hid (show b < w3.heap.size from World.block_lt_of_cell? w3 _ hlast)
  go_upto_region 7 with fail
  clear hcut hlast s1 s2 s3 b1
  obtain ⟨C, hC⟩ : ∃ C, C = w3.heap.size := ⟨_, rfl⟩
  have HCC := Lib.hid (show b < C ∧ C = w3.heap.size from ⟨by rw [hC]; exact HBC.out, hC⟩)
  clear hC
  have HPS0 := Lib.hid (HZ.out p C w3 (HP1.out.ext HX3.out) (by have h1 := HBL.out; have h2 := HCC.out.1; omega) (by rw [HCC.out.2]; exact Nat.le_refl _))
  have HXW := Lib.hid (show ∀ wr, ExtQ (fun k => k = p ∨ C ≤ k) w3 wr → Ext w wr from fun wr hx => (HX0.out.trans (HX1.out.trans HX3.out)).andQ hx (fun k hk => by
    have h1 := HRL.out; have h2 := HPR.out; have h3 := HBL.out; have h4 := HCC.out.1
    rcases hk with hk | hk <;> omega))
  go_wp2
  go_loopw [33] (fun iv wr => ∃ i : Nat, i ≤ m ∧ iv = .int .i64 (i : Int) ∧ PS i p C wr ∧ ExtQ (fun k => k = p ∨ C ≤ k) w3 wr) (fun iv _ => m - (intOf iv).toNat)
  case atStart => exact ⟨0, Nat.zero_le _, rfl, HPS0.out, ExtQ.refl _ _⟩
  case round =>
    obtain ⟨i, hi, rfl, hps, hx⟩ := hrel
    rename World => wr
    by_cases hiL : i < L.length
    · have HIL := Lib.hid hiL
      have HIM := Lib.hid hi
      have q1 : (i : Int) < (n : Int) := by have := HLL.out; omega
      have q1n : i < n := by have := HLL.out; omega
      have q0 : 0 ≤ (i : Int) := by omega
      have y0 : wr.cell? ⟨b, i, none⟩ = some (strV L[i]) := by
        obtain ⟨b9, o9, e9, h9⟩ := reW1 HLS.out hiL
        injection e9 with e9
        injection e9 with e9 e8 _
        subst e9; subst e8
        rw [Nat.zero_add] at h9
        exact (World.cell?_of_block (a := ⟨b, i, none⟩) (hx.block b (by rw [← HCC.out.2]; exact HCC.out.1) (fun e => by have h1 := HBL.out; have h4 := HCC.out.1; rcases e with e | e <;> omega))).trans h9
      have HPSI := Lib.hid hps
      have HXI := Lib.hid hx
      have HTI := Lib.hid (HT.out.ext (HXW.out wr hx))
      have HWI := Lib.hid (words_any L[i] wr (by have := HLN.out _ (List.getElem_mem hiL); omega) HTI.out.m)
      have HWN := Lib.hid (HWD.out _ (List.getElem_mem hiL))
      have HLI := Lib.hid (HOK.out i (by have := HM.out; omega) hiL)
      unfold LineOk at HLI
      generalize L[i] = x at *
      clear hi hiL hps hx
      go_wp2_with fail
      refine HWI.out.mono ?_
      rintro e w4 ⟨u, rfl, hou, he4⟩
      obtain ⟨Au, cu, rfl⟩ := hou.re.form
      generalize wordsL x = ws at *
      have HOU := Lib.hid hou
      have HE4 := Lib.hid he4
      obtain ⟨k, hk⟩ : ∃ k, k = ws.length := ⟨_, rfl⟩
      have HK := Lib.hid hk
      have k0 : (0 : Int) < (k : Int) := by
        have h1 : ws.length ≠ 0 := fun e => HWN.out (List.eq_nil_of_length_eq_zero e)
        omega
      have k1 : 0 < k := by omega
      have HWS := Lib.hid (show WsR 60 w4 (w4.alloc (.cells #[.slice Au k cu, .bool false] 60)) w4.heap.size ws false from ⟨Nat.le_refl _, (Ext.refl _).alloc _, Au, cu, by exact hou.re, by rw [← hk]; exact Blk.new _ _ _⟩)
      have HQS := Lib.hid (show w4.heap.size < (w4.alloc (.cells #[.slice Au k cu, .bool false] 60)).heap.size from by simp)
      have HPC := Lib.hid (show p < C ∧ C ≤ w4.heap.size from ⟨by have h1 := HBL.out; have h2 := HCC.out.1; omega, by have h1 := HXI.out.size; have h2 := he4.size; have h3 := HCC.out.2; omega⟩)
      have HX4 := Lib.hid (show ExtQ (fun k => k = p ∨ C ≤ k) w3 (w4.alloc (.cells #[.slice Au k cu, .bool false] 60)) from HXI.out.trans (ExtQ.of (he4.trans ((Ext.refl _).alloc _))))
      rw [← hk]
      have hi9 : i ≤ 1000 := by have h1 := HN.out; have h2 := HIL.out; omega
      clear hou he4 hk y0
      go_wp2_with fail
      have him : i < m := by have h1 := HM.out; have h2 := HIL.out; omega
      refine (HLI.out p C w4 _ w4.heap.size HPC.out.1 HPC.out.2 (HE.out _ _ _ _ _ HPSI.out HE4.out) (HTI.out.ext HE4.out) HWS.out HQS.out).mono ?_
      rintro e w5 ⟨rfl, hps5, hx5⟩
      have HPS5 := Lib.hid hps5
      have HX5 := Lib.hid (HX4.out.trans hx5)
      clear hps5 hx5
      go_wp2
      exact ⟨⟨i + 1, him, by simp, HPS5.out, HX5.out⟩, by simp [intOf]; omega⟩
    · have him : i = m := by have h1 := HM.out; have h2 := hi; omega
      have q1 : ¬ (i : Int) < (n : Int) := by have h1 := HLL.out; omega
      have q1n : ¬ i < n := by have h1 := HLL.out; omega
      have hn9 : n ≤ 1000 := by have h1 := HN.out; have h2 := HLL.out; omega
      have HXX := Lib.hid (HXW.out _ hx)
      have HR5 := Lib.hid (((HR0.out.ext (HX1.out.trans HX3.out)).b.extQ hx (fun e => by have h1 := HPR.out; have h2 := HBL.out; have h3 := HCC.out.1; rcases e with e | e <;> omega)))
      have HPSM := Lib.hid (show PS m p C wr from by rw [← him]; exact hps)
      clear hps hx him
      have hnm : n = m := by have h1 := HM.out; have h2 := HLL.out; omega
      subst hnm
      obtain ⟨k0, k1, k2, k3, nv, out, iv, av, at_, hpb, hat⟩ := HEND.out p C wr HPSM.out
      have z8 := hpb.cell 8
      have b3 : (at_ < 3) = True := by simp; omega
      have b4 : decide (at_ < 3) = true := by simp; omega
      have hr5 := HR5.out
      have c0 := hr5.cell 0
      have c1 := hr5.cell 1
      have c2 := hr5.cell 2
      have c3 := hr5.cell 3
      have c4 := hr5.cell 4
      have c5 := hr5.cell 5
      have c6 := hr5.cell 6
      have c7 := hr5.cell 7
      have f0 := hr5.frozen 0
      have f1 := hr5.frozen 1
      have f2 := hr5.frozen 2
      have f3 := hr5.frozen 3
      have f4 := hr5.frozen 4
      have f5 := hr5.frozen 5
      have f6 := hr5.frozen 6
      have f7 := hr5.frozen 7
      clear hr5
      clear hpb
      go_wp2
      obtain ⟨y0, y1, y2, y3, y4, y5, y6, y7⟩ := (Bx8.set8 (v0 := .int .i64 0) (v1 := .int .i64 0) (v2 := .int .i64 0) (v3 := .int .i64 0) (v4 := .slice none 0 0) (v5 := .int .i64 0) (v6 := .slice none 0 0) (v7 := .slice none 0 0) (⟨HR5.out⟩ : Bx8 wr r 43 (.int .i64 0) (.int .i64 0) (.int .i64 0) (.int .i64 0) (.slice none 0 0) (.int .i64 0) (.slice none 0 0) (.slice none 0 0))).at_
      have hxf := HXX.out.andQ (extQ_set8 (v0 := .int .i64 0) (v1 := .int .i64 0) (v2 := .int .i64 0) (v3 := .int .i64 0) (v4 := .slice none 0 0) (v5 := .int .i64 0) (v6 := .slice none 0 0) (v7 := .slice none 0 0) wr r) (fun k hk => by have h1 := HRL.out; have hk : k = r := hk; omega)
      exact bodyPost_ret (v := .tuple #[zSc 0 0 0 0 (.slice none 0 0) 0 (.slice none 0 0) (.slice none 0 0), .int .i64 ((n : Int) + 1), .int .i64 290]) (by simp [results, Tryz.results13, go_sem, y0, y1, y2, y3, y4, y5, y6, y7]) rfl ⟨rfl, hxf⟩
set_option maxRecDepth 100000 in
set_option maxHeartbeats 16000000 in
theorem parse_ok (L : List W) (PS : ParseS) (m : Nat) (w : World) (hL : TextOk L) (hS : StateOk PS) (ht : Ptb w) (hok : ∀ i, i < m → ∀ hi : i < L.length, LineOk L PS i hi) (k0 k1 k2 k3 o : Int) (ns : List Nd) (ins : List (List Bag)) (acts : List Sc.Act) (hm : m = L.length) (hend : ∀ p C W, PS m p C W → ∃ nv iv av at_, Blk W p 87 (paCs k0 k1 k2 k3 nv o iv av at_) ∧ 3 ≤ at_ ∧ ∀ V, ExtQ (fun k => k < C) W V → ScR 2 V nv iv av ⟨(k0, k1, k2, k3), (ns, o), ins, acts⟩) (hsm : ScSm ⟨(k0, k1, k2, k3), (ns, o), ins, acts⟩) (hse : scE ⟨(k0, k1, k2, k3), (ns, o), ins, acts⟩ = 0) :
    Calls Tryz.prog 13 #[strV (linesT L)] w fun e w' => ∃ nv iv av, e = .returned (.tuple #[zSc k0 k1 k2 k3 nv o iv av, .int .i64 0, .int .i64 0]) ∧ ScR 2 w' nv iv av ⟨(k0, k1, k2, k3), (ns, o), ins, acts⟩ ∧ Ext w w' := by
  obtain ⟨hnl, hwd, hln, hn, hs⟩ := hL
  obtain ⟨hz, hext⟩ := hS
  have HNL := Lib.hid hnl
  have HWD := Lib.hid hwd
  have HLN := Lib.hid hln
  have HN := Lib.hid hn
  have HS := Lib.hid hs
  have HZ := Lib.hid hz
  have HE := Lib.hid hext
  have HT := Lib.hid ht
  have HOK := Lib.hid hok
  have HM := Lib.hid hm
  have HEND := Lib.hid hend
  have HSM := Lib.hid hsm
  have HSE := Lib.hid hse
  clear hnl hwd hln hn hs hz hext ht hok hm hend hsm hse
  obtain ⟨n, hn⟩ : ∃ n, n = L.length := ⟨_, rfl⟩
  have HLL := Lib.hid hn
  have q0 : (((linesT L).length : Int) > 65536) = False := by have := HS.out; simp; omega
  have q1 : ¬ (65536 : Int) < ((linesT L).length : Int) := by have := HS.out; omega
  have q2 : ¬ 65536 < (linesT L).length := by have := HS.out; omega
  obtain ⟨T, hT⟩ : ∃ T, linesT L = T := ⟨_, rfl⟩
  have HSP := Lib.hid (fun W h => split10_any L W HNL.out (by have := HS.out; omega) (by have := HN.out; omega) h)
  rw [hT] at HSP q0 q1 q2 ⊢
  rw [← hn] at HSP
  clear hT hn
  have HR0 := Lib.hid (Bx8.new w 43 (.int .i64 0) (.int .i64 0) (.int .i64 0) (.int .i64 0) (.slice none 0 0) (.int .i64 0) (.slice none 0 0) (.slice none 0 0))
  have HX0 := Lib.hid ((Ext.refl w).alloc (scCs (.int .i64 0) (.int .i64 0) (.int .i64 0) (.int .i64 0) (.slice none 0 0) 0 (.slice none 0 0) (.slice none 0 0)))
  obtain ⟨r, hr⟩ : ∃ r, r = w.heap.size := ⟨_, rfl⟩
  go_enter Tryz.func13, Tryz.ntmps13
  go_upto_region 1 with fail
  rw [← hr] at HR0 ⊢
  have HRL := Lib.hid (show w.heap.size ≤ r from by rw [hr]; exact Nat.le_refl _)
  clear hr
  generalize w.alloc (scCs (.int .i64 0) (.int .i64 0) (.int .i64 0) (.int .i64 0) (.slice none 0 0) 0 (.slice none 0 0) (.slice none 0 0)) = w1 at *
  have HP1 := Lib.hid (Blk.new w1 87 (paCs 0 0 0 0 (.slice none 0 0) 0 (.slice none 0 0) (.slice none 0 0) 0))
  have HX1 := Lib.hid ((Ext.refl w1).alloc (.cells (paCs 0 0 0 0 (.slice none 0 0) 0 (.slice none 0 0) (.slice none 0 0) 0) 87))
  obtain ⟨p, hp⟩ : ∃ p, p = w1.heap.size := ⟨_, rfl⟩
  go_upto_region 4 with fail
  have HPR := Lib.hid (show r < p ∧ p < (w1.alloc (.cells (paCs 0 0 0 0 (.slice none 0 0) 0 (.slice none 0 0) (.slice none 0 0) 0) 87)).heap.size from ⟨by rw [hp]; exact HR0.out.b.lt, by rw [hp]; exact HP1.out.lt⟩)
  rw [← hp] at HP1 ⊢
  clear hp q0 q1 q2
  generalize w1.alloc (.cells (paCs 0 0 0 0 (.slice none 0 0) 0 (.slice none 0 0) (.slice none 0 0) 0) 87) = w2 at *
  go_wp2_with fail
  refine (HSP.out w2 (HT.out.m.ext (HX0.out.trans HX1.out))).mono ?_
  rintro e w3 ⟨rfl, hls, he3⟩
  obtain ⟨b, hb⟩ : ∃ b, b = w2.heap.size := ⟨_, rfl⟩
  rw [← hb] at hls ⊢
  have HBL := Lib.hid (show p < b from by rw [hb]; exact HPR.out.2)
  clear hb
  have hlen9 : (L ++ [[]]).length = n + 1 := by rw [List.length_append, ← HLL.out]; rfl
  have hlast : w3.cell? ⟨b, n, none⟩ = some (strV []) := by
    obtain ⟨b9, o9, e9, h9⟩ := reW1 hls (k := n) (by rw [hlen9]; omega)
    injection e9 with e9
    injection e9 with e9 e8 _
    subst e9; subst e8
    rw [Nat.zero_add] at h9
    rw [h9]
    simp only [HLL.out]
    rw [List.getElem_append_right (Nat.le_refl _)]
    simp
  have hls2 : RE w3 (.slice (some ⟨b, 0, none⟩) (L ++ [[]]).length (n + 1)) (L ++ [[]]) := by rw [hlen9]; exact hls
  obtain ⟨hcut, hre⟩ := RE.hi (k := n) elemW hls2 (by rw [hlen9]; omega)
  rw [hlen9] at hcut
  rw [HLL.out, List.take_left, ← HLL.out] at hre
  have HLS := Lib.hid hre
  have HX3 := Lib.hid he3
  obtain ⟨n1, hn1⟩ : ∃ n1, n1 = n + 1 := ⟨_, rfl⟩
  rw [← hn1] at hcut ⊢
  have s1 : IntKind.i64.wrap ((n1 : Int) - 1) = (n : Int) := by
    have h2 := HN.out
    have h3 := HLL.out
    rw [show (n1 : Int) - 1 = (n : Int) by omega]
    exact IntWalk.i64_in _ (by omega)
  have s2 : (n : Int) < (n1 : Int) := by omega
  have s3 : n < n1 := by omega
  have b1 : ((⟨#[]⟩ : ByteArray) == ⟨#[]⟩) = true := rfl
  clear hls hls2 hlen9 hre he3 hn1
  have hlast : w3.cell? ⟨b, n, none⟩ = some (.string ⟨#[]⟩) := hlast
  have HBC := Lib.hid (show b < w3.heap.size from World.block_lt_of_cell? w3 _ hlast)
  go_upto_region 7 with fail
  clear hcut hlast s1 s2 s3 b1
  obtain ⟨C, hC⟩ : ∃ C, C = w3.heap.size := ⟨_, rfl⟩
  have HCC := Lib.hid (show b < C ∧ C = w3.heap.size from ⟨by rw [hC]; exact HBC.out, hC⟩)
  clear hC
  have HPS0 := Lib.hid (HZ.out p C w3 (HP1.out.ext HX3.out) (by have h1 := HBL.out; have h2 := HCC.out.1; omega) (by rw [HCC.out.2]; exact Nat.le_refl _))
  have HXW := Lib.hid (show ∀ wr, ExtQ (fun k => k = p ∨ C ≤ k) w3 wr → Ext w wr from fun wr hx => (HX0.out.trans (HX1.out.trans HX3.out)).andQ hx (fun k hk => by
    have h1 := HRL.out; have h2 := HPR.out; have h3 := HBL.out; have h4 := HCC.out.1
    rcases hk with hk | hk <;> omega))
  go_wp2
  go_loopw [33] (fun iv wr => ∃ i : Nat, i ≤ m ∧ iv = .int .i64 (i : Int) ∧ PS i p C wr ∧ ExtQ (fun k => k = p ∨ C ≤ k) w3 wr) (fun iv _ => m - (intOf iv).toNat)
  case atStart => exact ⟨0, Nat.zero_le _, rfl, HPS0.out, ExtQ.refl _ _⟩
  case round =>
    obtain ⟨i, hi, rfl, hps, hx⟩ := hrel
    rename World => wr
    by_cases hiL : i < L.length
    · have HIL := Lib.hid hiL
      have HIM := Lib.hid hi
      have q1 : (i : Int) < (n : Int) := by have := HLL.out; omega
      have q1n : i < n := by have := HLL.out; omega
      have q0 : 0 ≤ (i : Int) := by omega
      have y0 : wr.cell? ⟨b, i, none⟩ = some (strV L[i]) := by
        obtain ⟨b9, o9, e9, h9⟩ := reW1 HLS.out hiL
        injection e9 with e9
        injection e9 with e9 e8 _
        subst e9; subst e8
        rw [Nat.zero_add] at h9
        exact (World.cell?_of_block (a := ⟨b, i, none⟩) (hx.block b (by rw [← HCC.out.2]; exact HCC.out.1) (fun e => by have h1 := HBL.out; have h4 := HCC.out.1; rcases e with e | e <;> omega))).trans h9
      have HPSI := Lib.hid hps
      have HXI := Lib.hid hx
      have HTI := Lib.hid (HT.out.ext (HXW.out wr hx))
      have HWI := Lib.hid (words_any L[i] wr (by have := HLN.out _ (List.getElem_mem hiL); omega) HTI.out.m)
      have HWN := Lib.hid (HWD.out _ (List.getElem_mem hiL))
      have HLI := Lib.hid (HOK.out i (by have := HM.out; omega) hiL)
      unfold LineOk at HLI
      generalize L[i] = x at *
      clear hi hiL hps hx
      go_wp2_with fail
      refine HWI.out.mono ?_
      rintro e w4 ⟨u, rfl, hou, he4⟩
      obtain ⟨Au, cu, rfl⟩ := hou.re.form
      generalize wordsL x = ws at *
      have HOU := Lib.hid hou
      have HE4 := Lib.hid he4
      obtain ⟨k, hk⟩ : ∃ k, k = ws.length := ⟨_, rfl⟩
      have HK := Lib.hid hk
      have k0 : (0 : Int) < (k : Int) := by
        have h1 : ws.length ≠ 0 := fun e => HWN.out (List.eq_nil_of_length_eq_zero e)
        omega
      have k1 : 0 < k := by omega
      have HWS := Lib.hid (show WsR 60 w4 (w4.alloc (.cells #[.slice Au k cu, .bool false] 60)) w4.heap.size ws false from ⟨Nat.le_refl _, (Ext.refl _).alloc _, Au, cu, by exact hou.re, by rw [← hk]; exact Blk.new _ _ _⟩)
      have HQS := Lib.hid (show w4.heap.size < (w4.alloc (.cells #[.slice Au k cu, .bool false] 60)).heap.size from by simp)
      have HPC := Lib.hid (show p < C ∧ C ≤ w4.heap.size from ⟨by have h1 := HBL.out; have h2 := HCC.out.1; omega, by have h1 := HXI.out.size; have h2 := he4.size; have h3 := HCC.out.2; omega⟩)
      have HX4 := Lib.hid (show ExtQ (fun k => k = p ∨ C ≤ k) w3 (w4.alloc (.cells #[.slice Au k cu, .bool false] 60)) from HXI.out.trans (ExtQ.of (he4.trans ((Ext.refl _).alloc _))))
      rw [← hk]
      have hi9 : i ≤ 1000 := by have h1 := HN.out; have h2 := HIL.out; omega
      clear hou he4 hk y0
      go_wp2_with fail
      have him : i < m := by have h1 := HM.out; have h2 := HIL.out; omega
      refine (HLI.out p C w4 _ w4.heap.size HPC.out.1 HPC.out.2 (HE.out _ _ _ _ _ HPSI.out HE4.out) (HTI.out.ext HE4.out) HWS.out HQS.out).mono ?_
      rintro e w5 ⟨rfl, hps5, hx5⟩
      have HPS5 := Lib.hid hps5
      have HX5 := Lib.hid (HX4.out.trans hx5)
      clear hps5 hx5
      go_wp2
      exact ⟨⟨i + 1, him, by simp, HPS5.out, HX5.out⟩, by simp [intOf]; omega⟩
    · have him : i = m := by have h1 := HM.out; have h2 := hi; omega
      have q1 : ¬ (i : Int) < (n : Int) := by have h1 := HLL.out; omega
      have q1n : ¬ i < n := by have h1 := HLL.out; omega
      have hn9 : n ≤ 1000 := by have h1 := HN.out; have h2 := HLL.out; omega
      have HXX := Lib.hid (HXW.out _ hx)
      have HR5 := Lib.hid (((HR0.out.ext (HX1.out.trans HX3.out)).b.extQ hx (fun e => by have h1 := HPR.out; have h2 := HBL.out; have h3 := HCC.out.1; rcases e with e | e <;> omega)))
      have HPSM := Lib.hid (show PS m p C wr from by rw [← him]; exact hps)
      clear hps hx him
      have hnm : n = m := by have h1 := HM.out; have h2 := HLL.out; omega
      subst hnm
      obtain ⟨nv, iv, av, at_, hpb, hat, hsc⟩ := HEND.out p C wr HPSM.out
      have HPB := Lib.hid hpb
      have HSC := Lib.hid hsc
      have hsc := hsc wr (ExtQ.refl _ _)
      have HCHK := Lib.hid (sCheck_any 2 ⟨(k0, k1, k2, k3), (ns, o), ins, acts⟩ nv iv av wr hsc HSM.out)
      rw [HSE.out] at HCHK
      obtain ⟨⟨AN, cN, rfl⟩, ⟨AI, cI, rfl⟩, AA, cA, rfl⟩ := hsc.form
      dsimp only at HPB HSC HCHK
      have z0 := hpb.cell 0
      have z1 := hpb.cell 1
      have z2 := hpb.cell 2
      have z3 := hpb.cell 3
      have z4 := hpb.cell 4
      have z5 := hpb.cell 5
      have z6 := hpb.cell 6
      have z7 := hpb.cell 7
      have z8 := hpb.cell 8
      have b3 : ¬ at_ < 3 := by omega
      have b4 : decide (at_ < 3) = false := by simp; omega
      clear hpb hsc
      dsimp only at z0 z1 z2 z3 z4 z5 z6 z7 z8
      go_wp2_with fail
      refine HCHK.out.mono ?_
      rintro e w5 ⟨rfl, he5⟩
      have HPB5 := Lib.hid (HPB.out.ext he5)
      have HR6 := Lib.hid (HR5.out.ext he5)
      have HX6 := Lib.hid (HXX.out.trans he5)
      have HE5 := Lib.hid he5
      clear he5 z0 z1 z2 z3 z4 z5 z6 z7 z8
      have hpb := HPB5.out
      have z0 := hpb.cell 0
      have z1 := hpb.cell 1
      have z2 := hpb.cell 2
      have z3 := hpb.cell 3
      have z4 := hpb.cell 4
      have z5 := hpb.cell 5
      have z6 := hpb.cell 6
      have z7 := hpb.cell 7
      clear hpb
      have hr5 := HR6.out
      have c0 := hr5.cell 0
      have f0 := hr5.frozen 0
      have c1 := hr5.cell 1
      have f1 := hr5.frozen 1
      have c2 := hr5.cell 2
      have f2 := hr5.frozen 2
      have c3 := hr5.cell 3
      have f3 := hr5.frozen 3
      have c4 := hr5.cell 4
      have f4 := hr5.frozen 4
      have c5 := hr5.cell 5
      have f5 := hr5.frozen 5
      have c6 := hr5.cell 6
      have f6 := hr5.frozen 6
      have c7 := hr5.cell 7
      have f7 := hr5.frozen 7
      clear hr5
      go_wp2
      obtain ⟨y0, y1, y2, y3, y4, y5, y6, y7⟩ := (Bx8.set8 (v0 := .int .i64 k0) (v1 := .int .i64 k1) (v2 := .int .i64 k2) (v3 := .int .i64 k3) (v4 := .slice AN ns.length cN) (v5 := .int .i64 o) (v6 := .slice AI ins.length cI) (v7 := .slice AA acts.length cA) (⟨HR6.out⟩ : Bx8 w5 r 43 (.int .i64 0) (.int .i64 0) (.int .i64 0) (.int .i64 0) (.slice none 0 0) (.int .i64 0) (.slice none 0 0) (.slice none 0 0))).at_
      have hs8 := extQ_set8 (v0 := .int .i64 k0) (v1 := .int .i64 k1) (v2 := .int .i64 k2) (v3 := .int .i64 k3) (v4 := .slice AN ns.length cN) (v5 := .int .i64 o) (v6 := .slice AI ins.length cI) (v7 := .slice AA acts.length cA) w5 r
      have hxf := HX6.out.andQ hs8 (fun k hk => by have h1 := HRL.out; have hk : k = r := hk; omega)
      have hsf := HSC.out _ ((ExtQ.of HE5.out).trans (hs8.mono fun k (hk : k = r) => by have h1 := HPR.out; have h2 := HBL.out; have h3 := HCC.out.1; show k < C; omega))
      exact bodyPost_ret (v := .tuple #[zSc k0 k1 k2 k3 (.slice AN ns.length cN) o (.slice AI ins.length cI) (.slice AA acts.length cA), .int .i64 0, .int .i64 0]) (by simp [results, Tryz.results13, go_sem, y0, y1, y2, y3, y4, y5, y6, y7]) rfl ⟨_, _, _, rfl, hsf, hxf⟩
end Go.Proofs.YtpmgmiiidfconaaGreatDoor
