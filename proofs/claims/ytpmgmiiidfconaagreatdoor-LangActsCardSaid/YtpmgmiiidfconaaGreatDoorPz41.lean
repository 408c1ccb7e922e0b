/-
  LaLiv1, ScrSame, packed: what the claim needs of them.
-/
import Derived.Test.YtpmgmiiidfconaaGreatDoorPz40
import Derived.Test.YtpmgmiiidfconaaGreatDoorPz18
import Derived.Test.YtpmgmiiidfconaaGreatDoorPz16
import Derived.Test.YtpmgmiiidfconaaGreatDoorPz10
import Derived.Test.YtpmgmiiidfconaaGreatDoorPz31
import Derived.ChangeKeysEq
set_option linter.unusedVariables false
set_option linter.unusedSimpArgs false
namespace Go.Proofs.YtpmgmiiidfconaaGreatDoor
open Go.RowKit Go.Ox Go.Ox.Gr Go.Ox.Sc Go.Ox.La Go.Shelf
set_option maxRecDepth 100000 in
set_option maxHeartbeats 4000000 in
theorem ample_any (w : World) : Calls Tryz.prog 21 #[.int .i64 2] w fun e w' => e = .returned (.agg #[.int .i64 2, .int .i64 4096, .int .i64 64, .int .i64 16384]) ∧ Ext w w' := by
  have hal := (Ext.refl w).alloc (.cells #[.int .i64 0, .int .i64 0, .int .i64 0, .int .i64 0] 36)
  have hb : Blk (w.alloc (.cells #[.int .i64 0, .int .i64 0, .int .i64 0, .int .i64 0] 36)) w.heap.size 36 #[.int .i64 0, .int .i64 0, .int .i64 0, .int .i64 0] := Blk.new _ _ _
  have HX := Lib.hid hal
  have HB := Lib.hid hb
  obtain ⟨r, hr⟩ : ∃ r, r = w.heap.size := ⟨_, rfl⟩
  go_enter Tryz.func21, Tryz.ntmps21
  go_upto_region 1 with fail
  rw [← hr] at HB ⊢
  have HRL := Lib.hid (show w.heap.size ≤ r from by rw [hr]; exact Nat.le_refl _)
  clear hr hal hb
  generalize w.alloc (.cells #[.int .i64 0, .int .i64 0, .int .i64 0, .int .i64 0] 36) = w1 at *
  have hb := HB.out
  have c0 := hb.cell 0
  have c1 := hb.cell 1
  have c2 := hb.cell 2
  have c3 := hb.cell 3
  have f0 := hb.frozen 0
  have f1 := hb.frozen 1
  have f2 := hb.frozen 2
  have f3 := hb.frozen 3
  clear hb
  go_wp2
  have hb2 := ((((HB.out.set_ 0 (.int .i64 2)).set_ 1 (.int .i64 4096)).set_ 2 (.int .i64 64)).set_ 3 (.int .i64 16384))
  have y0 := hb2.cell 0
  have y1 := hb2.cell 1
  have y2 := hb2.cell 2
  have y3 := hb2.cell 3
  simp at y0 y1 y2 y3
  have hx2 : ExtQ (fun k => k = r) w1 ((((w1.setCell ⟨r, 0, none⟩ (.int .i64 2)).setCell ⟨r, 1, none⟩ (.int .i64 4096)).setCell ⟨r, 2, none⟩ (.int .i64 64)).setCell ⟨r, 3, none⟩ (.int .i64 16384)) := (((exq_set1 w1 r 0 _).trans (exq_set1 _ r 1 _)).trans (exq_set1 _ r 2 _)).trans (exq_set1 _ r 3 _)
  exact bodyPost_ret (v := .agg #[.int .i64 2, .int .i64 4096, .int .i64 64, .int .i64 16384]) (by simp [results, Tryz.results21, go_sem, y0, y1, y2, y3]) rfl ⟨rfl, HX.out.andQ hx2 (fun k hk => by have h1 := HRL.out; have hk : k = r := hk; omega)⟩
theorem rd_blk {V : World} {g T k n : Nat} {cs : Array Value} (h : Blk V g T cs) (hs : cs.size = n * k) (hm : n ≤ maxLen) : Rd V k (.slice (some ⟨g, 0, none⟩) n n) n cs.toList :=
  Rd.of_own (base := 0) (e := T) ⟨by rw [Array.length_toList, hs], .inr ⟨g, n, cs, rfl, Nat.zero_le _, h, Nat.le_refl _, hm, hs, by rw [← hs, ← Array.length_toList, List.take_length]⟩⟩
theorem re_blk {V : World} {g T n : Nat} {cs : Array Value} {l : List Int} (h : Blk V g T cs) (hl : l.length = n) (hm : n ≤ 1000) (he : cs.toList = eV l) : RE V (.slice (some ⟨g, 0, none⟩) n n) l := by
  subst hl
  have h1 : cs.size = l.length * 1 := by rw [← Array.length_toList, he, eV_len]; rfl
  unfold RE
  rw [← he]
  exact rd_blk h h1 (by unfold maxLen; omega)
theorem nodes_blk {V : World} {g T d n : Nat} {cs : Array Value} (rows : List (List Value)) (l : List Nd) (h : Blk V g T cs) (hn : rows.length = n) (hm : n ≤ maxLen) (hc : cs.toList = rows.flatten) (hcs : cs.size = n * 6) (hq : Each2 (NdQ (NodesR d)  V) rows l) :
    NodesR (d + 1) V (.slice (some ⟨g, 0, none⟩) n n) l := by
  refine NodesR.of_rs ⟨rows, ?_, hq.len, hq.at_⟩
  rw [hn, ← hc]
  exact rd_blk h hcs hm
theorem reach_memS {n : Int} {w w0 w1 w2 w3 w4 w5 w6 w7 w8 : World}
    (h0 : w0 = w.alloc (.cells #[.slice (some ⟨w.heap.size + 1 + 1 + 1 + 1 + 1 + 1 + 1 + 1, 0, none⟩) 3 3, .int .i64 2] 39))
    (h1 : w1 = w0.alloc (.cells #[.int .i64 1] 3))
    (h2 : w2 = w1.alloc (.cells #[.int .i64 0, .int .i64 1] 3))
    (h3 : w3 = w2.alloc (.cells #[.int .i64 2] 3))
    (h4 : w4 = w3.alloc (.cells #[.int .i64 3] 3))
    (h5 : w5 = w4.alloc (.cells #[.int .i64 0, .int .i64 4] 3))
    (h6 : w6 = w5.alloc (.cells #[.int .i64 5] 3))
    (h7 : w7 = w6.alloc (.cells #[.int .i64 10, .slice none 0 0, .int .i64 0, .int .i64 0, .int .i64 0, .slice none 0 0, .int .i64 11, .slice none 0 0, .int .i64 0, .int .i64 0, .int .i64 0, .slice none 0 0,
      .int .i64 6, .slice (some ⟨w.heap.size + 1 + 1, 0, none⟩) 2 2, .int .i64 23, .int .i64 0, .int .i64 0, .slice none 0 0, .int .i64 2, .slice (some ⟨w.heap.size + 1 + 1 + 1, 0, none⟩) 1 1, .int .i64 3, .int .i64 0, .int .i64 0, .slice none 0 0,
      .int .i64 2, .slice (some ⟨w.heap.size + 1 + 1 + 1 + 1, 0, none⟩) 1 1, .int .i64 5, .int .i64 1, .int .i64 0, .slice none 0 0, .int .i64 8, .slice (some ⟨w.heap.size + 1 + 1 + 1 + 1 + 1, 0, none⟩) 2 2, .int .i64 0, .int .i64 0, .int .i64 0, .slice none 0 0,
      .int .i64 7, .slice (some ⟨w.heap.size + 1 + 1 + 1 + 1 + 1 + 1, 0, none⟩) 1 1, .int .i64 0, .int .i64 0, .int .i64 0, .slice none 0 0] 57))
    (h8 : w8 = w7.alloc (.cells #[.int .i64 1, .slice none 0 0, .int .i64 0, .int .i64 0, .int .i64 0, .slice none 0 0, .int .i64 1, .slice none 0 0, .int .i64 0, .int .i64 0, .int .i64 1, .slice none 0 0,
      .int .i64 9, .slice (some ⟨w.heap.size + 1, 0, none⟩) 1 1, .int .i64 0, .int .i64 0, .int .i64 n, .slice (some ⟨w.heap.size + 1 + 1 + 1 + 1 + 1 + 1 + 1, 0, none⟩) 7 7] 57)) :
    (∀ V, ExtQ (fun k => k < w.heap.size) w8 V → NodesR 2 V (.slice (some ⟨w.heap.size + 1 + 1 + 1 + 1 + 1 + 1 + 1 + 1, 0, none⟩) 3 3) (reachN n)) := by
  have s0 : w0.heap.size = w.heap.size + 1 := by rw [h0]; simp
  have s1 : w1.heap.size = w.heap.size + 1 + 1 := by rw [h1, ← s0]; simp
  have s2 : w2.heap.size = w.heap.size + 1 + 1 + 1 := by rw [h2, ← s1]; simp
  have s3 : w3.heap.size = w.heap.size + 1 + 1 + 1 + 1 := by rw [h3, ← s2]; simp
  have s4 : w4.heap.size = w.heap.size + 1 + 1 + 1 + 1 + 1 := by rw [h4, ← s3]; simp
  have s5 : w5.heap.size = w.heap.size + 1 + 1 + 1 + 1 + 1 + 1 := by rw [h5, ← s4]; simp
  have s6 : w6.heap.size = w.heap.size + 1 + 1 + 1 + 1 + 1 + 1 + 1 := by rw [h6, ← s5]; simp
  have s7 : w7.heap.size = w.heap.size + 1 + 1 + 1 + 1 + 1 + 1 + 1 + 1 := by rw [h7, ← s6]; simp
  have b1 : Blk w1 (w.heap.size + 1) 3 #[.int .i64 1] := by rw [← s0, h1]; exact Blk.new _ _ _
  have b2 : Blk w2 (w.heap.size + 1 + 1) 3 #[.int .i64 0, .int .i64 1] := by rw [← s1, h2]; exact Blk.new _ _ _
  have b3 : Blk w3 (w.heap.size + 1 + 1 + 1) 3 #[.int .i64 2] := by rw [← s2, h3]; exact Blk.new _ _ _
  have b4 : Blk w4 (w.heap.size + 1 + 1 + 1 + 1) 3 #[.int .i64 3] := by rw [← s3, h4]; exact Blk.new _ _ _
  have b5 : Blk w5 (w.heap.size + 1 + 1 + 1 + 1 + 1) 3 #[.int .i64 0, .int .i64 4] := by rw [← s4, h5]; exact Blk.new _ _ _
  have b6 : Blk w6 (w.heap.size + 1 + 1 + 1 + 1 + 1 + 1) 3 #[.int .i64 5] := by rw [← s5, h6]; exact Blk.new _ _ _
  have b7 : Blk w7 (w.heap.size + 1 + 1 + 1 + 1 + 1 + 1 + 1) 57 #[.int .i64 10, .slice none 0 0, .int .i64 0, .int .i64 0, .int .i64 0, .slice none 0 0, .int .i64 11, .slice none 0 0, .int .i64 0, .int .i64 0, .int .i64 0, .slice none 0 0, .int .i64 6, .slice (some ⟨w.heap.size + 1 + 1, 0, none⟩) 2 2, .int .i64 23, .int .i64 0, .int .i64 0, .slice none 0 0, .int .i64 2, .slice (some ⟨w.heap.size + 1 + 1 + 1, 0, none⟩) 1 1, .int .i64 3, .int .i64 0, .int .i64 0, .slice none 0 0, .int .i64 2, .slice (some ⟨w.heap.size + 1 + 1 + 1 + 1, 0, none⟩) 1 1, .int .i64 5, .int .i64 1, .int .i64 0, .slice none 0 0, .int .i64 8, .slice (some ⟨w.heap.size + 1 + 1 + 1 + 1 + 1, 0, none⟩) 2 2, .int .i64 0, .int .i64 0, .int .i64 0, .slice none 0 0, .int .i64 7, .slice (some ⟨w.heap.size + 1 + 1 + 1 + 1 + 1 + 1, 0, none⟩) 1 1, .int .i64 0, .int .i64 0, .int .i64 0, .slice none 0 0] := by rw [← s6, h7]; exact Blk.new _ _ _
  have b8 : Blk w8 (w.heap.size + 1 + 1 + 1 + 1 + 1 + 1 + 1 + 1) 57 #[.int .i64 1, .slice none 0 0, .int .i64 0, .int .i64 0, .int .i64 0, .slice none 0 0, .int .i64 1, .slice none 0 0, .int .i64 0, .int .i64 0, .int .i64 1, .slice none 0 0, .int .i64 9, .slice (some ⟨w.heap.size + 1, 0, none⟩) 1 1, .int .i64 0, .int .i64 0, .int .i64 n, .slice (some ⟨w.heap.size + 1 + 1 + 1 + 1 + 1 + 1 + 1, 0, none⟩) 7 7] := by rw [← s7, h8]; exact Blk.new _ _ _
  have e1 : Ext w0 w1 := by rw [h1]; exact (Ext.refl _).alloc _
  have e2 : Ext w1 w2 := by rw [h2]; exact (Ext.refl _).alloc _
  have e3 : Ext w2 w3 := by rw [h3]; exact (Ext.refl _).alloc _
  have e4 : Ext w3 w4 := by rw [h4]; exact (Ext.refl _).alloc _
  have e5 : Ext w4 w5 := by rw [h5]; exact (Ext.refl _).alloc _
  have e6 : Ext w5 w6 := by rw [h6]; exact (Ext.refl _).alloc _
  have e7 : Ext w6 w7 := by rw [h7]; exact (Ext.refl _).alloc _
  have e8 : Ext w7 w8 := by rw [h8]; exact (Ext.refl _).alloc _
  intro V hV
  have r1 : RE V (.slice (some ⟨w.heap.size + 1, 0, none⟩) 1 1) ([1] : List Int) := re_blk ((((((((b1.ext e2).ext e3).ext e4).ext e5).ext e6).ext e7).ext e8).extQ hV (fun (e : w.heap.size + 1 < w.heap.size) => by omega)) rfl (by omega) rfl
  have r2 : RE V (.slice (some ⟨w.heap.size + 1 + 1, 0, none⟩) 2 2) ([0, 1] : List Int) := re_blk (((((((b2.ext e3).ext e4).ext e5).ext e6).ext e7).ext e8).extQ hV (fun (e : w.heap.size + 1 + 1 < w.heap.size) => by omega)) rfl (by omega) rfl
  have r3 : RE V (.slice (some ⟨w.heap.size + 1 + 1 + 1, 0, none⟩) 1 1) ([2] : List Int) := re_blk ((((((b3.ext e4).ext e5).ext e6).ext e7).ext e8).extQ hV (fun (e : w.heap.size + 1 + 1 + 1 < w.heap.size) => by omega)) rfl (by omega) rfl
  have r4 : RE V (.slice (some ⟨w.heap.size + 1 + 1 + 1 + 1, 0, none⟩) 1 1) ([3] : List Int) := re_blk (((((b4.ext e5).ext e6).ext e7).ext e8).extQ hV (fun (e : w.heap.size + 1 + 1 + 1 + 1 < w.heap.size) => by omega)) rfl (by omega) rfl
  have r5 : RE V (.slice (some ⟨w.heap.size + 1 + 1 + 1 + 1 + 1, 0, none⟩) 2 2) ([0, 4] : List Int) := re_blk ((((b5.ext e6).ext e7).ext e8).extQ hV (fun (e : w.heap.size + 1 + 1 + 1 + 1 + 1 < w.heap.size) => by omega)) rfl (by omega) rfl
  have r6 : RE V (.slice (some ⟨w.heap.size + 1 + 1 + 1 + 1 + 1 + 1, 0, none⟩) 1 1) ([5] : List Int) := re_blk (((b6.ext e7).ext e8).extQ hV (fun (e : w.heap.size + 1 + 1 + 1 + 1 + 1 + 1 < w.heap.size) => by omega)) rfl (by omega) rfl
  have n7 : NodesR 1 V (.slice (some ⟨w.heap.size + 1 + 1 + 1 + 1 + 1 + 1 + 1, 0, none⟩) 7 7) reachB := by
    refine nodes_blk [ndC 10 0 0 0 (.slice none 0 0) (.slice none 0 0), ndC 11 0 0 0 (.slice none 0 0) (.slice none 0 0), ndC 6 23 0 0 (.slice (some ⟨w.heap.size + 1 + 1, 0, none⟩) 2 2) (.slice none 0 0),
      ndC 2 3 0 0 (.slice (some ⟨w.heap.size + 1 + 1 + 1, 0, none⟩) 1 1) (.slice none 0 0), ndC 2 5 1 0 (.slice (some ⟨w.heap.size + 1 + 1 + 1 + 1, 0, none⟩) 1 1) (.slice none 0 0),
      ndC 8 0 0 0 (.slice (some ⟨w.heap.size + 1 + 1 + 1 + 1 + 1, 0, none⟩) 2 2) (.slice none 0 0), ndC 7 0 0 0 (.slice (some ⟨w.heap.size + 1 + 1 + 1 + 1 + 1 + 1, 0, none⟩) 1 1) (.slice none 0 0)] reachB ((b7.ext e8).extQ hV (fun (e : w.heap.size + 1 + 1 + 1 + 1 + 1 + 1 + 1 < w.heap.size) => by omega)) rfl (by unfold maxLen; omega) rfl rfl ?_
    exact ⟨⟨rfl, NdQ.mk (OE.nilS 3 0 _).re (NodesR.nil _ _)⟩, ⟨rfl, NdQ.mk (OE.nilS 3 0 _).re (NodesR.nil _ _)⟩, ⟨rfl, NdQ.mk r2 (NodesR.nil _ _)⟩, ⟨rfl, NdQ.mk r3 (NodesR.nil _ _)⟩, ⟨rfl, NdQ.mk r4 (NodesR.nil _ _)⟩, ⟨rfl, NdQ.mk r5 (NodesR.nil _ _)⟩, ⟨rfl, NdQ.mk r6 (NodesR.nil _ _)⟩, trivial⟩
  refine nodes_blk [ndC 1 0 0 0 (.slice none 0 0) (.slice none 0 0), ndC 1 0 0 1 (.slice none 0 0) (.slice none 0 0), ndC 9 0 0 n (.slice (some ⟨w.heap.size + 1, 0, none⟩) 1 1) (.slice (some ⟨w.heap.size + 1 + 1 + 1 + 1 + 1 + 1 + 1, 0, none⟩) 7 7)] (reachN n) (b8.extQ hV (fun (e : w.heap.size + 1 + 1 + 1 + 1 + 1 + 1 + 1 + 1 < w.heap.size) => by omega)) rfl (by unfold maxLen; omega) rfl rfl ?_
  exact ⟨⟨rfl, NdQ.mk (OE.nilS 3 0 _).re (NodesR.nil _ _)⟩, ⟨rfl, NdQ.mk (OE.nilS 3 0 _).re (NodesR.nil _ _)⟩, ⟨rfl, NdQ.mk r1 n7⟩, trivial⟩
section
attribute [local irreducible] RE OE NodesR
set_option maxRecDepth 100000 in
set_option maxHeartbeats 4000000 in
theorem reachS_any (w : World) : Calls Tryz.prog 22 #[.int .i64 9] w fun e w' => ∃ A c, e = .returned (gAg (.slice A 3 c) 2) ∧ (∀ V, ExtQ (fun k => k < w.heap.size) w' V → NodesR 2 V (.slice A 3 c) reachL) ∧ Ext w w' := by
  have HM := Lib.hid (reach_mem (n := 9) (w := w) rfl rfl rfl rfl rfl rfl rfl rfl rfl)
  have HS := Lib.hid (reach_memS (n := 9) (w := w) rfl rfl rfl rfl rfl rfl rfl rfl rfl)
  go_enter Tryz.func22, Tryz.ntmps22
  go_upto_region 1 with fail
  go_wp2
  obtain ⟨hb, hn, hx⟩ := HM.out
  have y0 := hb.cell 0
  have y1 := hb.cell 1
  exact bodyPost_ret (v := gAg _ 2) (by simp [results, Tryz.results22, go_sem, y0, y1]) rfl ⟨_, _, rfl, HS.out, hx⟩
end
theorem chain_mem {w w1 w3 w4 w5 w6 : World} {e r : Nat} {u av : Value} (hu : ∀ V, ExtQ (fun k => k < w1.heap.size) w3 V → NodesR 2 V u reachL) (he : Blk w1 e 66 #[.int .i64 1, .int .i64 2, .int .i64 2, .int .i64 3]) (hx : Ext w1 w3) (hx0 : Ext w w1) (hr : r < e) (hrw : w.heap.size ≤ r) (ha : ActsR w av [chainG])
    (h4 : w4 = w3.alloc (.cells #[.int .i64 1, .int .i64 0] 66))
    (h5 : w5 = w4.alloc (.cells #[.slice (some ⟨e, 0, none⟩) 2 2, .slice (some ⟨w3.heap.size, 0, none⟩) 1 1] 67))
    (h6 : w6 = w5.alloc (.cells #[.slice (some ⟨w3.heap.size + 1, 0, none⟩) 2 2] 70)) :
    Ext w3 w6 ∧ ∀ V, ExtQ (fun k => k = r) w6 V → ScR 2 V u (.slice (some ⟨w3.heap.size + 1 + 1, 0, none⟩) 1 1) av chainS := by
  have s4 : w4.heap.size = w3.heap.size + 1 := by rw [h4]; simp
  have s5 : w5.heap.size = w3.heap.size + 1 + 1 := by rw [h5, ← s4]; simp
  have e4 : Ext w3 w4 := by rw [h4]; exact (Ext.refl _).alloc _
  have e5 : Ext w4 w5 := by rw [h5]; exact (Ext.refl _).alloc _
  have e6 : Ext w5 w6 := by rw [h6]; exact (Ext.refl _).alloc _
  have b4 : Blk w4 w3.heap.size 66 #[.int .i64 1, .int .i64 0] := by rw [h4]; exact Blk.new _ _ _
  have b5 : Blk w5 (w3.heap.size + 1) 67 #[.slice (some ⟨e, 0, none⟩) 2 2, .slice (some ⟨w3.heap.size, 0, none⟩) 1 1] := by rw [← s4, h5]; exact Blk.new _ _ _
  have b6 : Blk w6 (w3.heap.size + 1 + 1) 70 #[.slice (some ⟨w3.heap.size + 1, 0, none⟩) 2 2] := by rw [← s5, h6]; exact Blk.new _ _ _
  have hel := he.lt
  have hs13 := hx.size
  refine ⟨(e4.trans e5).trans e6, fun V hV => ?_⟩
  have x0 : Ext w w6 := (hx0.trans hx).trans ((e4.trans e5).trans e6)
  have r1 : RP V (.slice (some ⟨e, 0, none⟩) 2 2) chainB1 := rd_blk (k := 2) (n := 2) ((((he.ext hx).ext e4).ext e5).ext e6 |>.extQ hV (fun (h : e = r) => by omega)) rfl (by unfold maxLen; omega)
  have r4 : RP V (.slice (some ⟨w3.heap.size, 0, none⟩) 1 1) chainB2 := rd_blk (k := 2) (n := 1) (((b4.ext e5).ext e6).extQ hV (fun (h : w3.heap.size = r) => by omega)) rfl (by unfold maxLen; omega)
  have r5 : EpR V (.slice (some ⟨w3.heap.size + 1, 0, none⟩) 2 2) [chainB1, chainB2] := by
    refine ⟨[.slice (some ⟨e, 0, none⟩) 2 2, .slice (some ⟨w3.heap.size, 0, none⟩) 1 1], rd_blk (k := 1) (n := 2) ((b5.ext e6).extQ hV (fun (h : w3.heap.size + 1 = r) => by omega)) rfl (by unfold maxLen; omega), fun k hk => ?_⟩
    rcases k with _ | _ | k
    · exact ⟨_, rfl, r1⟩
    · exact ⟨_, rfl, r4⟩
    · simp at hk; omega
  have r6 : InsR V (.slice (some ⟨w3.heap.size + 1 + 1, 0, none⟩) 1 1) [[chainB1, chainB2]] := by
    refine ⟨[.slice (some ⟨w3.heap.size + 1, 0, none⟩) 2 2], rd_blk (k := 1) (n := 1) (b6.extQ hV (fun (h : w3.heap.size + 1 + 1 = r) => by omega)) rfl (by unfold maxLen; omega), fun k hk => ?_⟩
    obtain rfl : k = 0 := by simp at hk; omega
    exact ⟨_, rfl, r5⟩
  refine ⟨hu V ((ExtQ.of ((e4.trans e5).trans e6)).trans (hV.mono fun k (hk : k = r) => by show k < w1.heap.size; omega)), r6, ?_⟩
  have hxn : ExtQ (fun k => k = r) w V := (ExtQ.of x0).trans hV
  exact RS.extNew ha (by omega) (fun rr x _ ⟨u, h1, h2⟩ => ⟨u, h1, Rd.extNew h2 (by decide) hxn (fun k (hk : k = r) => by omega)⟩) hxn (fun k (hk : k = r) => by omega)
attribute [local irreducible] RE OE OB RB NodesR EpR InsR ActsR RP
set_option maxRecDepth 100000 in
set_option maxHeartbeats 8000000 in
theorem chain_any (v : Value) (w : World) (hv : ActsR w v [chainG]) : Calls Tryz.prog 11 #[v] w fun e w' => ∃ nv iv av, e = .returned (scAg chainS nv iv av) ∧ ScR 2 w' nv iv av chainS ∧ Ext w w' := by
  have HV := Lib.hid hv
  obtain ⟨AV, cV, rfl⟩ := hv.form
  clear hv
  have HR0 := Lib.hid (Bx8.new w 43 (.int .i64 0) (.int .i64 0) (.int .i64 0) (.int .i64 0) (.slice none 0 0) (.int .i64 0) (.slice none 0 0) (.slice none 0 0))
  have HX0 := Lib.hid ((Ext.refl w).alloc (scCs (.int .i64 0) (.int .i64 0) (.int .i64 0) (.int .i64 0) (.slice none 0 0) 0 (.slice none 0 0) (.slice none 0 0)))
  obtain ⟨r, hr⟩ : ∃ r, r = w.heap.size := ⟨_, rfl⟩
  go_enter Tryz.func11, Tryz.ntmps11
  go_upto_region 1 with fail
  rw [← hr] at HR0 ⊢
  have HRL := Lib.hid (show w.heap.size ≤ r from by rw [hr]; exact Nat.le_refl _)
  clear hr
  generalize w.alloc (scCs (.int .i64 0) (.int .i64 0) (.int .i64 0) (.int .i64 0) (.slice none 0 0) 0 (.slice none 0 0) (.slice none 0 0)) = w1 at *
  have HE1 := Lib.hid (Blk.new w1 66 #[.int .i64 1, .int .i64 2, .int .i64 2, .int .i64 3])
  have HX1 := Lib.hid ((Ext.refl w1).alloc (.cells #[.int .i64 1, .int .i64 2, .int .i64 2, .int .i64 3] 66))
  go_upto_region 2 with fail
  obtain ⟨e, he⟩ : ∃ e, e = w1.heap.size := ⟨_, rfl⟩
  rw [← he] at HE1 ⊢
  have HRE := Lib.hid (show r < e from by rw [he]; exact HR0.out.b.lt)
  clear he
  generalize w1.alloc (.cells #[.int .i64 1, .int .i64 2, .int .i64 2, .int .i64 3] 66) = w2 at *
  go_wp2_with fail
  refine (ample_any w2).mono ?_
  rintro e9 w3 ⟨rfl, he3⟩
  have HX3 := Lib.hid he3
  clear he3
  go_wp2_with fail
  refine (reachS_any w3).mono ?_
  rintro e9 w4 ⟨AU, cU, rfl, hu, he4⟩
  have HU := Lib.hid hu
  have HX4 := Lib.hid (HX3.out.trans he4)
  clear hu he4
  have HM := Lib.hid (chain_mem (w := w) (w1 := w2) (w3 := w4) (e := e) (r := r) (fun V hV => HU.out V (hV.mono fun k hk => Nat.lt_of_lt_of_le hk HX3.out.size)) HE1.out HX4.out (HX0.out.trans HX1.out) HRE.out HRL.out HV.out rfl rfl rfl)
  have HR4 := Lib.hid (HR0.out.ext (HX1.out.trans HX4.out))
  obtain ⟨hm2, hm1⟩ := HM.out
  have HM1 := Lib.hid hm1
  have HM2 := Lib.hid hm2
  have HR6 := Lib.hid (HR4.out.ext hm2)
  have hr6 := HR6.out.b
  have c0 := hr6.cell 0
  have c1 := hr6.cell 1
  have c2 := hr6.cell 2
  have c3 := hr6.cell 3
  have c4 := hr6.cell 4
  have c5 := hr6.cell 5
  have c6 := hr6.cell 6
  have c7 := hr6.cell 7
  have f0 := hr6.frozen 0
  have f1 := hr6.frozen 1
  have f2 := hr6.frozen 2
  have f3 := hr6.frozen 3
  have f4 := hr6.frozen 4
  have f5 := hr6.frozen 5
  have f6 := hr6.frozen 6
  have f7 := hr6.frozen 7
  clear hm1 hm2 hr6 HM
  go_wp2
  obtain ⟨y0, y1, y2, y3, y4, y5, y6, y7⟩ := (Bx8.set8 (v0 := .int .i64 2) (v1 := .int .i64 4096) (v2 := .int .i64 64) (v3 := .int .i64 16384) (v4 := .slice AU 3 cU) (v5 := .int .i64 2) (v6 := .slice (some ⟨w4.heap.size + 1 + 1, 0, none⟩) 1 1) (v7 := .slice AV 1 cV) HR6.out).at_
  have hs8 := extQ_set8 (v0 := .int .i64 2) (v1 := .int .i64 4096) (v2 := .int .i64 64) (v3 := .int .i64 16384) (v4 := .slice AU 3 cU) (v5 := .int .i64 2) (v6 := .slice (some ⟨w4.heap.size + 1 + 1, 0, none⟩) 1 1) (v7 := .slice AV 1 cV) (((w4.alloc (.cells #[.int .i64 1, .int .i64 0] 66)).alloc (.cells #[.slice (some ⟨e, 0, none⟩) 2 2, .slice (some ⟨w4.heap.size, 0, none⟩) 1 1] 67)).alloc (.cells #[.slice (some ⟨w4.heap.size + 1, 0, none⟩) 2 2] 70)) r
  have hxf := (((HX0.out.trans HX1.out).trans HX4.out).trans HM2.out).andQ hs8 (fun k hk => by have h1 := HRL.out; have hk : k = r := hk; omega)
  exact bodyPost_ret (v := .agg #[.int .i64 2, .int .i64 4096, .int .i64 64, .int .i64 16384, .slice AU 3 cU, .int .i64 2, .slice (some ⟨w4.heap.size + 1 + 1, 0, none⟩) 1 1, .slice AV 1 cV]) (by simp [results, Tryz.results11, go_sem, y0, y1, y2, y3, y4, y5, y6, y7]) rfl ⟨_, _, _, rfl, HM1.out _ hs8, hxf⟩
end Go.Proofs.YtpmgmiiidfconaaGreatDoor
namespace Go.Proofs.YtpmgmiiidfconaaGreatDoor
open Go.RowKit Go.Ox Go.Ox.Gr Go.Ox.Sc
set_option linter.unusedVariables false
set_option linter.unusedSimpArgs false
attribute [local irreducible] RE OE EpR InsR ActsR RP NodesR
@[irreducible] def cfgB (x y : Int × Int × Int × Int) : Bool := decide (x = y)
theorem cfgB_t {x y : Int × Int × Int × Int} (h : x = y) : cfgB x y = true := by unfold cfgB; simpa using h
theorem cfgB_f {x y : Int × Int × Int × Int} (h : x ≠ y) : cfgB x y = false := by unfold cfgB; simpa using h
abbrev cfgAg (k n a b : Int) : Value := .agg #[.int .i64 k, .int .i64 n, .int .i64 a, .int .i64 b]
theorem eqInC (k n a b k' n' a' b' : Int) (w : World) : (Op.equalIn 10000 36 (cfgAg k n a b) (cfgAg k' n' a' b')).run Tryz.prog w = .ok (cfgB (k, n, a, b) (k', n', a', b')) w := by
  have u3 := Tryz.underlying3
  have a3 := Tryz.isAgg3
  have z3 := Tryz.sizeOf3
  have hS : Tryz.prog.underlying 36 = some (.struct (Tryz.prog.fieldsOf 36)) := by kernel_rfl
  have hp : Tryz.prog.stoodInHeld 36 = false := by kernel_rfl
  rw [show (10000 : Nat) = 9999 + 1 from rfl, run_equalIn_agg w 9999 36 _ _ hS hp]
  simp only [Program.fieldsOf, Tryz.underlying36]
  have e : cfgB (k, n, a, b) (k', n', a', b') = ((k == k') && ((n == n') && ((a == a') && (b == b')))) := by
    unfold cfgB; rw [Bool.eq_iff_iff]; simp
  rw [e]
  go_simp
  by_cases h1 : k = k' <;> by_cases h2 : n = n' <;> by_cases h3 : a = a' <;> by_cases h4 : b = b' <;> simp [h1, h2, h3, h4]
theorem guardC : Tryz.prog.eqGuardType Tryz.prog.depth 36 = false := by kernel_rfl
theorem nrm_eq {s t : Sc} : nrm s = nrm t ↔ s.cfg = t.cfg ∧ s.g = t.g ∧ s.ins.map srtE = t.ins.map srtE ∧ s.acts = t.acts := by
  unfold nrm
  constructor
  · intro h; injection h with h1 h2 h3 h4; exact ⟨h1, h2, h3, h4⟩
  · rintro ⟨h1, h2, h3, h4⟩; rw [h1, h2, h3, h4]
end Go.Proofs.YtpmgmiiidfconaaGreatDoor
