/-
  ScrLives, ScrLawC, GrFnR, GrRefI, packed: what the claim needs of them.
-/
import Derived.Test.YtpmpjjhchkoboaaGreatDoorPc21
import Derived.Deep.DeepCutAuto
import Derived.Test.YtpmpjjhchkoboaaGreatDoorPc27
import Derived.Test.YtpmpjjhchkoboaaGreatDoorPc33
import Derived.Test.YtpmpjjhchkoboaaGreatDoorPc35
import Derived.Test.YtpmpjjhchkoboaaGreatDoorPc06
import Derived.Test.YtpmpjjhchkoboaaGreatDoorPc02
import Derived.LaidSub
import Derived.Lib.LaidTab
import Derived.KernelRfl
import Derived.Test.YtpmpjjhchkoboaaGreatDoorPc08
open Go.Lib (hid)
set_option maxHeartbeats 400000
set_option linter.unusedSimpArgs false
set_option linter.unusedVariables false
set_option maxRecDepth 100000
namespace Go.Proofs.YtpmpjjhchkoboaaGreatDoor
open Go.RowKit Go.Ox Go.Ox.Gr Go.Ox.Sc
theorem live_mem {w1 w2 w3 w4 w5 w6 : World} {u : Value} (hu : NodesR 2 w1 u (reachN 3))
 (h2 : w2 = w1.alloc (.cells #[.int .i64 1, .int .i64 2] 55))
 (h3 : w3 = w2.alloc (.cells #[.slice (some ⟨w1.heap.size, 0, none⟩) 1 1, .slice none 0 0] 52))
 (h4 : w4 = w3.alloc (.cells #[.slice (some ⟨w1.heap.size + 1, 0, none⟩) 2 2] 51))
 (h5 : w5 = w4.alloc (.cells #[.int .i64 64, .int .i64 0] 3))
 (h6 : w6 = w5.alloc (.cells #[.int .i64 3, .int .i64 0, .int .i64 0, .int .i64 0, .int .i64 0, .slice (some ⟨w1.heap.size + 1 + 1 + 1, 0, none⟩) 2 2, .int .i64 2, .int .i64 5, .int .i64 0, .int .i64 0, .int .i64 0, .slice none 0 0] 47)) :
 ScR 2 w6 u (.slice (some ⟨w1.heap.size + 1 + 1, 0, none⟩) 1 1) (.slice (some ⟨w1.heap.size + 1 + 1 + 1 + 1, 0, none⟩) 2 2) liveS ∧ Ext w1 w6 := by
 have s2 : w2.heap.size = w1.heap.size + 1 := by rw [h2]; simp
 have s3 : w3.heap.size = w1.heap.size + 1 + 1 := by rw [h3, ← s2]; simp
 have s4 : w4.heap.size = w1.heap.size + 1 + 1 + 1 := by rw [h4, ← s3]; simp
 have s5 : w5.heap.size = w1.heap.size + 1 + 1 + 1 + 1 := by rw [h5, ← s4]; simp
 have e2 : Ext w1 w2 := by rw [h2]; exact (Ext.refl _).alloc _
 have e3 : Ext w2 w3 := by rw [h3]; exact (Ext.refl _).alloc _
 have e4 : Ext w3 w4 := by rw [h4]; exact (Ext.refl _).alloc _
 have e5 : Ext w4 w5 := by rw [h5]; exact (Ext.refl _).alloc _
 have e6 : Ext w5 w6 := by rw [h6]; exact (Ext.refl _).alloc _
 have r2 : RP w2 (.slice (some ⟨w1.heap.size, 0, none⟩) 1 1) [(1, 2)] := by rw [h2]; exact RP.lit w1 #[.int .i64 1, .int .i64 2] 55 1 [(1, 2)] rfl (by omega) rfl
 have r3 : EpR w3 (.slice (some ⟨w1.heap.size + 1, 0, none⟩) 2 2) [[(1, 2)], []] := by
  rw [← s2, h3]
  exact RV.lit2 52 (RP.ext r2 ((Ext.refl _).alloc _)) (RP.nilS _)
 have r4 : InsR w4 (.slice (some ⟨w1.heap.size + 1 + 1, 0, none⟩) 1 1) [[[(1, 2)], []]] := by
  rw [← s3, h4]
  refine ⟨[.slice (some ⟨w1.heap.size + 1, 0, none⟩) 2 2], Rd.lit w3 #[.slice (some ⟨w1.heap.size + 1, 0, none⟩) 2 2] 51 1 rfl (by unfold maxLen; omega), fun k hk => ?_⟩
  obtain rfl : k = 0 := by simp at hk; omega
  exact ⟨_, rfl, r3.ext ((Ext.refl _).alloc _)⟩
 have r5 : RE w5 (.slice (some ⟨w1.heap.size + 1 + 1 + 1, 0, none⟩) 2 2) ([64, 0] : List Int) := by rw [← s4, h5]; exact RE.lit w4 #[.int .i64 64, .int .i64 0] 3 2 [64, 0] rfl (by omega) rfl
 have r6 : ActsR w6 (.slice (some ⟨w1.heap.size + 1 + 1 + 1 + 1, 0, none⟩) 2 2) [((3, 0, 0, 0, 0), [64, 0]), ((2, 5, 0, 0, 0), [])] := by
  rw [← s5, h6]
  refine ⟨[[.int .i64 3, .int .i64 0, .int .i64 0, .int .i64 0, .int .i64 0, .slice (some ⟨w1.heap.size + 1 + 1 + 1, 0, none⟩) 2 2], [.int .i64 2, .int .i64 5, .int .i64 0, .int .i64 0, .int .i64 0, .slice none 0 0]],
   Rd.lit w5 #[.int .i64 3, .int .i64 0, .int .i64 0, .int .i64 0, .int .i64 0, .slice (some ⟨w1.heap.size + 1 + 1 + 1, 0, none⟩) 2 2, .int .i64 2, .int .i64 5, .int .i64 0, .int .i64 0, .int .i64 0, .slice none 0 0] 47 2 rfl (by unfold maxLen; omega), rfl, fun i r x hr hx => ?_⟩
  match i, hr, hx with
  | 0, hr, hx =>
   simp at hr hx
   subst hr hx
   exact ⟨rfl, _, rfl, RE.ext r5 ((Ext.refl _).alloc _)⟩
  | 1, hr, hx =>
   simp at hr hx
   subst hr hx
   exact ⟨rfl, _, rfl, RE.nilS _⟩
  | n + 2, hr, hx => simp at hr
 exact ⟨⟨((((hu.ext e2).ext e3).ext e4).ext e5).ext e6, (r4.ext e5).ext e6, r6⟩, (((e2.trans e3).trans e4).trans e5).trans e6⟩
theorem live_a1 : actS ((3, 0, 0, 0, 0), [64, 0]) = [99, 114, 97, 115, 104, 32, 54, 52, 32, 48] := by
 have h64 : Lib.decDigits 64 = [54, 52] := by rw [dec_step (by omega), dec_small (by omega)]; rfl
 have h0 : Lib.decDigits 0 = [48] := by rw [dec_small (by omega)]; rfl
 unfold actS
 rw [if_pos (by decide +kernel)]
 simp [h64, h0]
theorem live_a2 : actS ((2, 5, 0, 0, 0), []) = [115, 116, 111, 112, 32, 53] := by
 have h5 : Lib.decDigits 5 = [53] := by rw [dec_small (by omega)]; rfl
 unfold actS
 rw [if_pos (by decide +kernel)]
 simp [h5]
theorem live_a0 : actS ((0, 0, 0, 0, 0), []) = [] := by
 unfold actS
 rw [if_neg (by decide +kernel)]
theorem live_dec : decP (scL liveS) = (liveS, true) := dec_put live_canon (grL_lt live_ok)
theorem live_dec0 : (decP (scL liveS ++ [0])).2 = false := dec_more live_canon (grL_lt live_ok) [0] (by simp)
theorem own_lt {w : World} {base : Nat} {e : TypeId} {size : Nat} {v : Value} {n : Nat} {xs : List Value} (h : w.ownsRow base e size v n xs) {k : Nat} (hk : v.ownBlock = some k) : base ≤ k ∧ k < w.heap.size := by
 obtain ⟨-, ⟨rfl, -⟩ | ⟨g, cap, cur, rfl, hb, hg, -⟩⟩ := h
 · simp [Value.ownBlock] at hk
 · obtain rfl : g = k := by simpa [Value.ownBlock] using hk
   exact ⟨hb, (Array.getElem?_eq_some_iff.1 hg).1⟩
theorem live_c1 {w : World} {nv iv av nv' iv' av' : Value} (h : ScR 2 w nv iv av liveS) (h' : ScR 2 w nv' iv' av' liveS) : ∀ W, Ext w W →
 Calls Tryz.prog 9 #[.agg #[.int .i64 2, .int .i64 3, .int .i64 4, .int .i64 500, nv, .int .i64 2, iv, av], .agg #[.int .i64 2, .int .i64 3, .int .i64 4, .int .i64 500, nv', .int .i64 2, iv', av']] W fun e w' => e = .returned (.bool true) ∧ Ext W w' := fun W he =>
 (sSame_any 2 2 liveS liveS nv iv av nv' iv' av' W (h.ext he) (h'.ext he) live_sm live_sm live_gsm).mono fun e w' q => by
  obtain ⟨b, rfl, hb, hx⟩ := q
  exact ⟨by rw [hb.2 rfl], hx⟩
theorem live_c2 {w : World} {nv iv av : Value} (h : ScR 2 w nv iv av liveS) : ∀ W, Ext w W →
 Calls Tryz.prog 12 #[.agg #[.int .i64 2, .int .i64 3, .int .i64 4, .int .i64 500, nv, .int .i64 2, iv, av]] W fun e w' => e = .returned (.int .i64 0) ∧ Ext W w' := fun W he =>
 (sCheck_any 2 liveS nv iv av W (h.ext he) live_sm).mono fun e w' q => by
  have h1 : scE liveS = 0 := by unfold scE; rw [if_pos live_ok]
  rw [h1] at q
  exact q
theorem scZ_sm : ScSm scZ := ⟨by simp [scZ], by simp [scZ], by simp [scZ], by simp [scZ]⟩
theorem scZ_bad : scE scZ = 260 := by unfold scE scZ; rw [if_neg (by rw [zero_bad]; decide)]
theorem live_c3 (w : World) : ∀ W, Ext w W →
 Calls Tryz.prog 12 #[.agg #[.int .i64 0, .int .i64 0, .int .i64 0, .int .i64 0, .slice none 0 0, .int .i64 0, .slice none 0 0, .slice none 0 0]] W fun e w' => e = .returned (.int .i64 260) ∧ Ext W w' := fun W he =>
 (sCheck_any 2 scZ (.slice none 0 0) (.slice none 0 0) (.slice none 0 0) W ⟨NodesR.nil _ _, InsR.nil _, ActsR.nil _⟩ scZ_sm).mono fun e w' q => by
  rw [scZ_bad] at q
  exact q
theorem live_c4 {w : World} {nv iv : Value} {b c : Nat} (h : ScR 2 w nv iv (.slice (some ⟨b, 0, none⟩) 2 c) liveS) (ht : Tab w) : ∀ W, Ext w W →
 ∃ u, (W.cell? ⟨b, 0, none⟩ = some (.int .i64 3) ∧ W.cell? ⟨b, 1, none⟩ = some (.int .i64 0) ∧ W.cell? ⟨b, 2, none⟩ = some (.int .i64 0) ∧ W.cell? ⟨b, 3, none⟩ = some (.int .i64 0) ∧ W.cell? ⟨b, 4, none⟩ = some (.int .i64 0) ∧ W.cell? ⟨b, 5, none⟩ = some u) ∧
 Calls Tryz.prog 16 #[.agg #[.int .i64 3, .int .i64 0, .int .i64 0, .int .i64 0, .int .i64 0, u]] W fun e w' => e = .returned (.string ⟨#[99, 114, 97, 115, 104, 32, 54, 52, 32, 48]⟩) ∧ Ext W w' := fun W he => by
 obtain ⟨b', o, u, hA, z0, z1, z2, z3, z4, z5, hu⟩ := (h.ext he).a.at_ (i := 0) (by decide)
 obtain ⟨rfl, rfl⟩ : b = b' ∧ 0 = o := by injection hA with hA; injection hA with h1 h2; exact ⟨h1, h2⟩
 refine ⟨u, ⟨z0, z1, z2, z3, z4, z5⟩, (sAct_any 3 0 0 0 0 u [64, 0] W hu (by decide) (ht.ext he)).mono fun e w' q => ?_⟩
 rw [live_a1] at q
 exact q
theorem live_c5 {w : World} {nv iv : Value} {b c : Nat} (h : ScR 2 w nv iv (.slice (some ⟨b, 0, none⟩) 2 c) liveS) (ht : Tab w) : ∀ W, Ext w W →
 ∃ u, (W.cell? ⟨b, 6, none⟩ = some (.int .i64 2) ∧ W.cell? ⟨b, 7, none⟩ = some (.int .i64 5) ∧ W.cell? ⟨b, 8, none⟩ = some (.int .i64 0) ∧ W.cell? ⟨b, 9, none⟩ = some (.int .i64 0) ∧ W.cell? ⟨b, 10, none⟩ = some (.int .i64 0) ∧ W.cell? ⟨b, 11, none⟩ = some u) ∧
 Calls Tryz.prog 16 #[.agg #[.int .i64 2, .int .i64 5, .int .i64 0, .int .i64 0, .int .i64 0, u]] W fun e w' => e = .returned (.string ⟨#[115, 116, 111, 112, 32, 53]⟩) ∧ Ext W w' := fun W he => by
 obtain ⟨b', o, u, hA, z0, z1, z2, z3, z4, z5, hu⟩ := (h.ext he).a.at_ (i := 1) (by decide)
 obtain ⟨rfl, rfl⟩ : b = b' ∧ 0 = o := by injection hA with hA; injection hA with h1 h2; exact ⟨h1, h2⟩
 refine ⟨u, ⟨z0, z1, z2, z3, z4, z5⟩, (sAct_any 2 5 0 0 0 u [] W hu (by decide) (ht.ext he)).mono fun e w' q => ?_⟩
 rw [live_a2] at q
 exact q
theorem live_c6 (w : World) (ht : Tab w) : ∀ W, Ext w W →
 Calls Tryz.prog 16 #[.agg #[.int .i64 0, .int .i64 0, .int .i64 0, .int .i64 0, .int .i64 0, .slice none 0 0]] W fun e w' => e = .returned (.string ⟨#[]⟩) ∧ Ext W w' := fun W he =>
 (sAct_any 0 0 0 0 0 (.slice none 0 0) [] W (RE.nilS _) (by decide) (ht.ext he)).mono fun e w' q => by
  rw [live_a0] at q
  exact q
attribute [local irreducible] RE OE OB RB NodesR EpR InsR ActsR RP
set_option maxHeartbeats 8000000 in
theorem lives26_any (w : World) (ht : Tab w) : Calls Tryz.prog 7 #[] w fun e w' => e = .returned (.bool true) ∧ Ext w w' := by
 have HT := hid ht
 clear ht
 go_enter Tryz.func7, Tryz.ntmps7
 go_wp2_with fail
 refine (reach_anyN 3 _).mono ?_
 rintro e w1 ⟨u, rfl, hn1, he1⟩
 have HM := hid (live_mem (w1 := w1) hn1 rfl rfl rfl rfl rfl)
 have HN1 := hid hn1
 have HX1 := hid he1
 obtain ⟨AU, cU, rfl⟩ := hn1.form
 clear hn1 he1
 go_upto_region 2 with fail
 obtain ⟨hsc6, hx6⟩ := HM.out
 have hsz6 : (((((w1.alloc (.cells #[.int .i64 1, .int .i64 2] 55)).alloc (.cells #[.slice (some ⟨w1.heap.size, 0, none⟩) 1 1, .slice none 0 0] 52)).alloc (.cells #[.slice (some ⟨w1.heap.size + 1, 0, none⟩) 2 2] 51)).alloc (.cells #[.int .i64 64, .int .i64 0] 3)).alloc (.cells #[.int .i64 3, .int .i64 0, .int .i64 0, .int .i64 0, .int .i64 0, .slice (some ⟨w1.heap.size + 1 + 1 + 1, 0, none⟩) 2 2, .int .i64 2, .int .i64 5, .int .i64 0, .int .i64 0, .int .i64 0, .slice none 0 0] 47)).heap.size = w1.heap.size + 1 + 1 + 1 + 1 + 1 := by simp
 clear HM
 generalize ((((w1.alloc (.cells #[.int .i64 1, .int .i64 2] 55)).alloc (.cells #[.slice (some ⟨w1.heap.size, 0, none⟩) 1 1, .slice none 0 0] 52)).alloc (.cells #[.slice (some ⟨w1.heap.size + 1, 0, none⟩) 2 2] 51)).alloc (.cells #[.int .i64 64, .int .i64 0] 3)).alloc (.cells #[.int .i64 3, .int .i64 0, .int .i64 0, .int .i64 0, .int .i64 0, .slice (some ⟨w1.heap.size + 1 + 1 + 1, 0, none⟩) 2 2, .int .i64 2, .int .i64 5, .int .i64 0, .int .i64 0, .int .i64 0, .slice none 0 0] 47) = w6 at *
 have hal := (Ext.refl w6).alloc (scCs (.int .i64 2) (.int .i64 3) (.int .i64 4) (.int .i64 500) (.slice AU (reachN 3).length cU) 2 (.slice (some ⟨w1.heap.size + 1 + 1, 0, none⟩) 1 1) (.slice (some ⟨w1.heap.size + 1 + 1 + 1 + 1, 0, none⟩) 2 2))
 have HB7 := hid (Bx8.new w6 30 (.int .i64 2) (.int .i64 3) (.int .i64 4) (.int .i64 500) (.slice AU (reachN 3).length cU) (.int .i64 2) (.slice (some ⟨w1.heap.size + 1 + 1, 0, none⟩) 1 1) (.slice (some ⟨w1.heap.size + 1 + 1 + 1 + 1, 0, none⟩) 2 2))
 rw [hsz6] at HB7
 have HS7 := hid (hsc6.ext hal)
 have HX7 := hid ((HX1.out.trans hx6).trans hal)
 clear hsc6 hx6 hal hsz6
 generalize w6.alloc (scCs (.int .i64 2) (.int .i64 3) (.int .i64 4) (.int .i64 500) (.slice AU (reachN 3).length cU) 2 (.slice (some ⟨w1.heap.size + 1 + 1, 0, none⟩) 1 1) (.slice (some ⟨w1.heap.size + 1 + 1 + 1 + 1, 0, none⟩) 2 2)) = w7 at *
 generalize w1.heap.size + 1 + 1 + 1 + 1 + 1 = p at *
 generalize w1.heap.size + 1 + 1 + 1 + 1 = pa at *
 generalize w1.heap.size + 1 + 1 = pi at *
 obtain ⟨c0, c1, c2, c3, c4, c5, c6, c7⟩ := HB7.out.at_
 have HE := hid (show Calls Tryz.prog 8 #[.agg #[.int .i64 2, .int .i64 3, .int .i64 4, .int .i64 500, .slice AU (reachN 3).length cU, .int .i64 2, .slice (some ⟨pi, 0, none⟩) 1 1, .slice (some ⟨pa, 0, none⟩) 2 2]] w7 fun e w' => ∃ u, e = .returned (.tuple #[u, .int .i64 0]) ∧ OB 5 w7.heap.size w' u (scL liveS) ∧ Ext w7 w' from sEncodeO_any 2 liveS _ _ _ w7 HS7.out live_sm live_ok)
 have HD1 := hid (show ∀ W v, RB W v (scL liveS) → Calls Tryz.prog 13 #[v] W fun e w' => ∃ nv iv av, e = .returned (.tuple #[.agg #[.int .i64 2, .int .i64 3, .int .i64 4, .int .i64 500, nv, .int .i64 2, iv, av], .int .i64 0]) ∧ (∀ V, ExtQ (fun k => k < W.heap.size) w' V → ScR 2 V nv iv av liveS) ∧ Ext W w' from fun W v h => by
  have h1 := sDecodeS_any v (scL liveS) W h (by have := live_len; omega)
  rw [live_dec] at h1
  exact h1)
 have HD2 := hid (show ∀ W v, RB W v (scL liveS ++ [0]) → Calls Tryz.prog 13 #[v] W fun e w' => ∃ nv iv av, e = .returned (.tuple #[.agg #[.int .i64 0, .int .i64 0, .int .i64 0, .int .i64 0, nv, .int .i64 0, iv, av], .int .i64 260]) ∧ (∀ V, ExtQ (fun k => k < W.heap.size) w' V → ScR 2 V nv iv av scZ) ∧ Ext W w' from fun W v h => by
  have h1 := sDecodeS_any v (scL liveS ++ [0]) W h (by have := live_len; simp; omega)
  have h2 : sres (decP (scL liveS ++ [0])) = scZ ∧ serr (decP (scL liveS ++ [0])) = 260 := by
   unfold sres serr
   rw [live_dec0]
   exact ⟨rfl, rfl⟩
  rw [h2.1, h2.2] at h1
  exact h1)
 have HLL := hid live_len
 generalize hsl : scL liveS = sl at *
 clear hsl
 go_wp2_with fail
 refine HE.out.mono ?_
 rintro e w8 ⟨u8, rfl, ho8, he8⟩
 have HO8 := hid ho8
 have HX8 := hid he8
 obtain ⟨A8, c8, rfl⟩ := ho8.form
 clear ho8 he8 c0 c1 c2 c3 c4 c5 c6 c7
 go_wp2_with fail
 refine (HD1.out _ _ HO8.out.rb).mono ?_
 rintro e w9 ⟨nv, iv, av, rfl, hs9, he9⟩
 obtain ⟨⟨N9, n9, rfl⟩, ⟨I9, i9, rfl⟩, ⟨T9, t9, rfl⟩⟩ := (hs9 w9 (ExtQ.refl _ _)).form
 have HS9 := hid hs9
 have HX9 := hid (HX8.out.trans he9)
 have HO9 := hid (HO8.out.ext he9)
 have HE9 := hid he9
 clear hs9 he9
 have HLT := hid (show ∀ k, (Value.slice A8 sl.length c8).ownBlock = some k → k < w8.heap.size from fun k hk => (own_lt HO8.out.own hk).2)
 go_upto_region 4 with fail
 have hal := (Ext.refl w9).alloc (scCs (.int .i64 2) (.int .i64 3) (.int .i64 4) (.int .i64 500) (.slice N9 liveS.g.1.length n9) 2 (.slice I9 liveS.ins.length i9) (.slice T9 liveS.acts.length t9))
 have HBT := hid (Bx8.new w9 30 (.int .i64 2) (.int .i64 3) (.int .i64 4) (.int .i64 500) (.slice N9 liveS.g.1.length n9) (.int .i64 2) (.slice I9 liveS.ins.length i9) (.slice T9 liveS.acts.length t9))
 have HX10 := hid (HX9.out.trans hal)
 have HO10 := hid (HO9.out.ext hal)
 have HS10 := hid (fun V (hV : ExtQ (fun k => k < w8.heap.size) _ V) => HS9.out V ((ExtQ.of hal).trans hV))
 have HQ4 := hid (show w8.heap.size ≤ w9.heap.size from HE9.out.size)
 clear hal
 generalize w9.heap.size = q4 at *
 generalize w9.alloc (scCs (.int .i64 2) (.int .i64 3) (.int .i64 4) (.int .i64 500) (.slice N9 liveS.g.1.length n9) 2 (.slice I9 liveS.ins.length i9) (.slice T9 liveS.acts.length t9)) = w10 at *
 have hal := (Ext.refl w10).alloc (.cells #[.int .u8 0] 5)
 have HL11 := hid (RB.lit1 w10 5 (.int .u8 0) 0 (by unfold byteV n8; rfl))
 have HO11 := hid (HO10.out.ext hal)
 have HX11 := hid (HX10.out.trans hal)
 have HE11 := hid hal
 clear hal
 go_wp2_with (at_builtin; refine wpList_appBB rfl elemB w7 _ _ _ rfl _ sl rfl HO11.out HX11.out _ [0] rfl HL11.out (by have := HLL.out; simp; omega) ?_; intro v12 w12 ho12 he12 hg12; have HO12 := hid ho12; have HY12 := hid he12; have HX12 := hid (ExtQ.grown (Q := fun k => k < w8.heap.size) hg12 fun k hk => HLT.out k hk); obtain ⟨A12, n12, c12, rfl⟩ : ∃ A n c, v12 = .slice A n c := (by obtain ⟨A, c, h⟩ := HO12.out.form; exact ⟨A, _, c, h⟩); clear ho12 he12 hg12)
 go_wp2_with fail
 refine (HD2.out _ _ HO12.out.rb).mono ?_
 rintro e w13 ⟨nv, iv, av, rfl, hs13, he13⟩
 obtain ⟨⟨N13, n13, rfl⟩, ⟨I13, i13, rfl⟩, ⟨T13, t13, rfl⟩⟩ := (hs13 w13 (ExtQ.refl _ _)).form
 have HE13 := hid he13
 clear hs13 he13
 go_upto_region 5 with fail
 have hal := (Ext.refl w13).alloc (.cells #[.int .i64 0, .int .i64 0, .int .i64 0, .int .i64 0, .slice N13 scZ.g.1.length n13, .int .i64 0, .slice I13 scZ.ins.length i13, .slice T13 scZ.acts.length t13] 30)
 have HX14 := hid ((HY12.out.trans HE13.out).trans hal)
 have HB14 := hid (HB7.out.ext HX14.out)
 have HS14 := hid (HS7.out.ext HX14.out)
 have HBT14 := hid ((((HBT.out.ext HE11.out).extQ HX12.out (fun h => by have := HQ4.out; omega)).ext HE13.out).ext hal)
 have HST14 := hid (HS10.out _ ((((ExtQ.of HE11.out).trans HX12.out).trans (ExtQ.of HE13.out)).trans (ExtQ.of hal)))
 have HW14 := hid (HX7.out.trans HX14.out)
 clear hal
 generalize w13.alloc (.cells #[.int .i64 0, .int .i64 0, .int .i64 0, .int .i64 0, .slice N13 scZ.g.1.length n13, .int .i64 0, .slice I13 scZ.ins.length i13, .slice T13 scZ.acts.length t13] 30) = w14 at *
 have HC1 := hid (live_c1 HS14.out HST14.out)
 have HC2 := hid (live_c2 HS14.out)
 have HC3 := hid (live_c3 w14)
 have HC4 := hid (live_c4 HS14.out (HT.out.ext HW14.out))
 have HC5 := hid (live_c5 HS14.out (HT.out.ext HW14.out))
 have HC6 := hid (live_c6 w14 (HT.out.ext HW14.out))
 generalize liveS.g.1.length = n9l at *
 generalize liveS.ins.length = i9l at *
 generalize liveS.acts.length = t9l at *
 generalize (reachN 3).length = nul at *
 obtain ⟨c0, c1, c2, c3, c4, c5, c6, c7⟩ := HB14.out.at_
 obtain ⟨d0, d1, d2, d3, d4, d5, d6, d7⟩ := HBT14.out.at_
 go_wp2_with fail
 refine (HC1.out _ (Ext.refl _)).mono ?_
 rintro e w15 ⟨rfl, he15⟩
 have HZ15 := hid he15
 clear he15 c0 c1 c2 c3 c4 c5 c6 c7 d0 d1 d2 d3 d4 d5 d6 d7
 obtain ⟨c0, c1, c2, c3, c4, c5, c6, c7⟩ := (HB14.out.ext HZ15.out).at_
 go_wp2_with fail
 refine (HC2.out _ HZ15.out).mono ?_
 rintro e w16 ⟨rfl, he16⟩
 have HZ16 := hid (HZ15.out.trans he16)
 clear he16 c0 c1 c2 c3 c4 c5 c6 c7
 go_wp2_with fail
 refine (HC3.out _ HZ16.out).mono ?_
 rintro e w17 ⟨rfl, he17⟩
 have HZ17 := hid (HZ16.out.trans he17)
 clear he17
 obtain ⟨c0, c1, c2, c3, c4, c5, c6, c7⟩ := (HB14.out.ext HZ17.out).at_
 obtain ⟨z, ⟨a0, a1, a2, a3, a4, a5⟩, hC4⟩ := HC4.out _ HZ17.out
 have HC4' := hid hC4
 clear hC4
 trace_state
 go_wp2_with fail
 refine HC4'.out.mono ?_
 rintro e w18 ⟨rfl, he18⟩
 have HZ18 := hid (HZ17.out.trans he18)
 clear he18 c0 c1 c2 c3 c4 c5 c6 c7 a0 a1 a2 a3 a4 a5
 obtain ⟨c0, c1, c2, c3, c4, c5, c6, c7⟩ := (HB14.out.ext HZ18.out).at_
 obtain ⟨z', ⟨a0, a1, a2, a3, a4, a5⟩, hC5⟩ := HC5.out _ HZ18.out
 have HC5' := hid hC5
 clear hC5
 go_wp2_with fail
 refine HC5'.out.mono ?_
 rintro e w19 ⟨rfl, he19⟩
 have HZ19 := hid (HZ18.out.trans he19)
 clear he19 c0 c1 c2 c3 c4 c5 c6 c7 a0 a1 a2 a3 a4 a5
 go_wp2_with fail
 refine (HC6.out _ HZ19.out).mono ?_
 rintro e w20 ⟨rfl, he20⟩
 have HZ20 := hid (HW14.out.trans (HZ19.out.trans he20))
 clear he20
 go_wp2
 go_ret
 exact ⟨rfl, HZ20.out⟩
end Go.Proofs.YtpmpjjhchkoboaaGreatDoor
namespace Go.Proofs.YtpmpjjhchkoboaaGreatDoor
open Go.RowKit Go.Ox Go.Ox.Gr Go.Ox.Sc Go.ChangeShapes Go.WideShapes
section
variable {H : Type} {enc : TypeId × Value → H} {W : World} {base : Nat} {sp : Nat → Bool} {held : Bool} {v u : Value} {d : DataW H} {p : List MemPlace} {r : Reach} {b0 N : Nat}
end
theorem gPow : Tryz.prog.globalNamed "internal/strconv.uint64pow10" = some 0 := by kernel_rfl
theorem gPowT : (Tryz.prog.globals[0]?).map (·.type) = some 202 := by kernel_rfl
theorem tab26 {l : List (String × DataW Unit)} {W : World} (hl : ((l.filter fun x => x.2.handleName?.isNone).filter fun x => x.1 == "internal/strconv.uint64pow10") = [("internal/strconv.uint64pow10", Lib.tabData .u64 Lib.pow10Tab)])
 (hL : laidMetH Tryz.prog l W) : Tab W := by
 have h1 := ((laidMetH_iff.1 hL).1).filter (fun x => x.1 == "internal/strconv.uint64pow10")
 rw [hl] at h1
 exact Lib.tabIs_of_head (rest := []) gPow gPowT Tryz.underlying202 Tryz.underlying159 (by kernel_rfl) (by kernel_rfl) h1
attribute [local irreducible] RE OE RB OB
end Go.Proofs.YtpmpjjhchkoboaaGreatDoor
namespace Go.Proofs.YtpmpjjhchkoboaaGreatDoor
open Go.RowKit Go.Ox Go.Ox.Gr
set_option maxHeartbeats 4000000 in
theorem rfnFamily (k a : Int) (w : World) : Calls Tryz.prog 125 #[fnV k a] w fun e w' => e = .returned (.int .i64 (fam k a)) ∧ Ext w w' := by
 have HX0 := hid ((Ext.refl w).alloc (.cells #[.int .i64 k, .int .i64 a] 110))
 have hb := Blk.new w 110 #[.int .i64 k, .int .i64 a]
 have c0 : (w.alloc (.cells #[.int .i64 k, .int .i64 a] 110)).cell? ⟨w.heap.size, 0, none⟩ = some (.int .i64 k) := hb.cell 0
 have c1 : (w.alloc (.cells #[.int .i64 k, .int .i64 a] 110)).cell? ⟨w.heap.size, 1, none⟩ = some (.int .i64 a) := hb.cell 1
 clear hb
 have hlo : 0 ≤ lst k ∧ mst k ≤ 1048575 := by
  unfold lst mst
  repeat' split
  all_goals omega
 by_cases h1 : a < 0
 · rw [show fam k a = 0 from if_pos (by omega)]
   clear hlo
   go_enter Tryz.func125, Tryz.ntmps125
   go_wp2
   go_ret
   exact ⟨rfl, HX0.out⟩
 by_cases h2 : 1048576 ≤ a
 · rw [show fam k a = 0 from if_pos (by omega)]
   clear hlo
   go_enter Tryz.func125, Tryz.ntmps125
   go_wp2
   go_ret
   exact ⟨rfl, HX0.out⟩
 clear hlo
 have ha : (a = 0 ∧ ¬ 1 ≤ a ∧ a ≤ 8) ∨ (¬ a = 0 ∧ 1 ≤ a ∧ a ≤ 8) ∨ (¬ a = 0 ∧ 1 ≤ a ∧ ¬ a ≤ 8) := by omega
 rcases kinds k with rfl | rfl | rfl | rfl | rfl | rfl | rfl | rfl | rfl | rfl | rfl | rfl | rfl | rfl | rfl | rfl | rfl | rfl | rfl | rfl | rfl | rfl | rfl | hk
 case' inr.inr.inr.inr.inr.inr.inr.inr.inr.inr.inr.inr.inr.inr.inr.inr.inr.inr.inr.inr.inr.inr.inr =>
  have e1 : fam k a = 0 := by unfold fam fk; rcases hk with hk | hk; rw [if_pos hk]; simp; rw [if_neg (show ¬ k < 1 by omega), if_neg (show ¬ k ≤ 8 by omega), if_neg (show ¬ k ≤ 12 by omega), if_neg (show ¬ k ≤ 15 by omega), if_neg (show ¬ k ≤ 19 by omega), if_neg (show ¬ k ≤ 23 by omega)]; simp
  rw [e1]
  clear e1
  have n1 : ¬ k = 1 := by omega
  have n2 : ¬ k = 2 := by omega
  have n3 : ¬ k = 3 := by omega
  have n4 : ¬ k = 4 := by omega
  have n5 : ¬ k = 5 := by omega
  have n6 : ¬ k = 6 := by omega
  have n7 : ¬ k = 7 := by omega
  have n8 : ¬ k = 8 := by omega
  have n9 : ¬ k = 9 := by omega
  have n10 : ¬ k = 10 := by omega
  have n11 : ¬ k = 11 := by omega
  have n12 : ¬ k = 12 := by omega
  have n13 : ¬ k = 13 := by omega
  have n14 : ¬ k = 14 := by omega
  have n15 : ¬ k = 15 := by omega
  have n16 : ¬ k = 16 := by omega
  have n17 : ¬ k = 17 := by omega
  have n18 : ¬ k = 18 := by omega
  have n19 : ¬ k = 19 := by omega
  have n20 : ¬ k = 20 := by omega
  have n21 : ¬ k = 21 := by omega
  have n22 : ¬ k = 22 := by omega
  have n23 : ¬ k = 23 := by omega
  clear hk
 all_goals
  rcases ha with ⟨rfl, g2, g3⟩ | ⟨g1, g2, g3⟩ | ⟨g1, g2, g3⟩
  all_goals
   go_enter Tryz.func125, Tryz.ntmps125
   go_wp2
   go_ret
   refine ⟨?_, HX0.out⟩
   first | rfl | (unfold fam lst mst fk; simp; omega)
theorem rArity_any (k : Int) (w : World) : Calls Tryz.prog 123 #[.int .i64 k] w fun e w' => e = .returned (.int .i64 (arity k)) ∧ w = w' := by
 rcases ops11 k with rfl | rfl | rfl | rfl | rfl | rfl | rfl | rfl | rfl | rfl | rfl | hk
 case' inr.inr.inr.inr.inr.inr.inr.inr.inr.inr.inr =>
  have e1 : arity k = 0 := by unfold arity; repeat' rw [if_neg (by omega)]
  rw [e1]
  clear e1
  have n1 : ¬ k = 1 := by omega
  have n2 : ¬ k = 2 := by omega
  have n3 : ¬ k = 3 := by omega
  have n4 : ¬ k = 4 := by omega
  have n5 : ¬ k = 5 := by omega
  have n6 : ¬ k = 6 := by omega
  have n7 : ¬ k = 7 := by omega
  have n8 : ¬ k = 8 := by omega
  have n9 : ¬ k = 9 := by omega
  have n10 : ¬ k = 10 := by omega
  have n11 : ¬ k = 11 := by omega
  clear hk
 all_goals
  go_enter Tryz.func123, Tryz.ntmps123
  go_wp2
  go_ret
  exact ⟨rfl, rfl⟩
theorem rfamily_any (k : Int) (w : World) : Calls Tryz.prog 124 #[.int .i64 k] w fun e w' => e = .returned (.int .i64 (fmly k)) ∧ w = w' := by
 rcases ops11 k with rfl | rfl | rfl | rfl | rfl | rfl | rfl | rfl | rfl | rfl | rfl | hk
 case' inr.inr.inr.inr.inr.inr.inr.inr.inr.inr.inr =>
  have e1 : fmly k = 0 := by unfold fmly; repeat' rw [if_neg (by omega)]
  rw [e1]
  clear e1
  have n1 : ¬ k = 1 := by omega
  have n2 : ¬ k = 2 := by omega
  have n3 : ¬ k = 3 := by omega
  have n4 : ¬ k = 4 := by omega
  have n5 : ¬ k = 5 := by omega
  have n6 : ¬ k = 6 := by omega
  have n7 : ¬ k = 7 := by omega
  have n8 : ¬ k = 8 := by omega
  have n9 : ¬ k = 9 := by omega
  have n10 : ¬ k = 10 := by omega
  have n11 : ¬ k = 11 := by omega
  clear hk
 all_goals
  go_enter Tryz.func124, Tryz.ntmps124
  go_wp2
  go_ret
  exact ⟨rfl, rfl⟩
end Go.Proofs.YtpmpjjhchkoboaaGreatDoor
namespace Go.Proofs.YtpmpjjhchkoboaaGreatDoor
open Go.RowKit Go.Ox Go.Ox.Gr
theorem insOk_s (ins : List Int) (i : Nat) {k : Nat} (h : k < ins.length) : insOk (ins.take (k + 1)) i = (insOk (ins.take k) i && ahB ins[k] i) := by
 unfold insOk ahB
 rw [List.take_succ_eq_append_getElem h, List.all_append]
 simp
theorem insOk_no (ins : List Int) (i : Nat) {k : Nat} (h : k < ins.length) (hx : ¬ (0 ≤ ins[k] ∧ ins[k] < (i : Int))) : insOk ins i = false := by
 cases hi : insOk ins i with
 | false => rfl
 | true =>
  unfold insOk at hi
  have := List.all_eq_true.1 hi ins[k] (List.getElem_mem h)
  simp only [Bool.and_eq_true, decide_eq_true_eq] at this
  exact absurd this hx
end Go.Proofs.YtpmpjjhchkoboaaGreatDoor
