/-
  Package run: the run's block; New, Add, Len, Limit, Most, All, Take.
-/
import Derived.Test.YtbokblklldphgaaEntAt
import Derived.Test.YtbokblklldphgaaCopy
namespace Go.Proofs.Ytbokblklldphgaa
open Go.RowKit Go.Ox Go.Shelf
attribute [local irreducible] OE RE RP OP
set_option linter.unusedVariables false
set_option linter.unusedSimpArgs false

/-- a run (the program's, or the document's): its block, its entries -/
structure RunI (T : TypeId) (w : World) (g : Nat) (lv : Value) (l : List Ent.E) (a b : Int) : Prop where
  blk : Blk w g T #[lv, .int .i64 a, .int .i64 b]
  own : OE 33 (g + 1) w lv l
  lim : 1 ≤ a ∧ a ≤ 4096
  len : (l.length : Int) ≤ a
  most : 0 ≤ b ∧ b ≤ 4096
/-- the blocks that are a run's -/
def RunQ (g : Nat) (lv : Value) (k : Nat) : Prop := k = g ∨ lv.ownBlock = some k
/-- behind a call: the new entries lie where they lay, or in a new block -/
def NewQ (w : World) (lv lv' : Value) : Prop := ∀ k, lv'.ownBlock = some k → lv.ownBlock = some k ∨ w.heap.size ≤ k
section
variable {T : TypeId} {w w' : World} {g : Nat} {lv lv' : Value} {l l' : List Ent.E} {a b b' : Int} {Q : Nat → Prop}
theorem RunI.ext (h : RunI T w g lv l a b) (he : Ext w w') : RunI T w' g lv l a b := ⟨h.blk.ext he, h.own.ext he, h.lim, h.len, h.most⟩
theorem RunI.lt (h : RunI T w g lv l a b) {k : Nat} (hk : RunQ g lv k) : g ≤ k ∧ k < w.heap.size := by
  rcases hk with rfl | hk
  · exact ⟨Nat.le_refl _, h.blk.lt⟩
  · have := h.own.lt hk; omega
theorem RunI.extQ (h : RunI T w g lv l a b) (he : ExtQ Q w w') (hq : ∀ k, RunQ g lv k → ¬ Q k) : RunI T w' g lv l a b :=
  ⟨h.blk.extQ he (hq g (.inl rfl)), OE.mk (ownsRow_extQ h.own.own he fun k hk => hq k (.inr hk)), h.lim, h.len, h.most⟩
theorem RunI.bd (h : RunI T w g lv l a b) : l.length ≤ 4096 := by have := h.lim; have := h.len; omega
theorem RunI.cells (h : RunI T w g lv l a b) : w.cell? ⟨g, 0, none⟩ = some lv ∧ w.cell? ⟨g, 1, none⟩ = some (.int .i64 a) ∧ w.cell? ⟨g, 2, none⟩ = some (.int .i64 b) ∧ w.frozen? ⟨g, 0, none⟩ = false ∧ w.frozen? ⟨g, 2, none⟩ = false :=
  ⟨h.blk.cell 0, h.blk.cell 1, h.blk.cell 2, h.blk.frozen 0, h.blk.frozen 2⟩
theorem NewQ.refl (w : World) (lv : Value) : NewQ w lv lv := fun _ h => .inl h
/-- entries are laid into the block -/
theorem RunI.put (h : Blk w g T #[lv, .int .i64 a, .int .i64 b]) (ho : OE 33 (g + 1) w lv' l') (ha : 1 ≤ a ∧ a ≤ 4096) (hl : (l'.length : Int) ≤ a) (hb : 0 ≤ b ∧ b ≤ 4096) : RunI T (w.setCell ⟨g, 0, none⟩ lv') g lv' l' a b :=
  ⟨h.set_ 0 lv', OE.mk (ownsRow_extQ ho.own (ExtQ.setCell (Q := fun k => k = g) (ExtQ.refl _ _) (p := ⟨g, 0, none⟩) rfl lv') fun k hk q => by have := ho.lt hk; omega), ha, hl, hb⟩
theorem RunI.setMost (h : RunI T w g lv l a b) (hb : 0 ≤ b' ∧ b' ≤ 4096) : RunI T (w.setCell ⟨g, 2, none⟩ (.int .i64 b')) g lv l a b' :=
  ⟨h.blk.set_ 2 _, OE.mk (ownsRow_extQ h.own.own (ExtQ.setCell (Q := fun k => k = g) (ExtQ.refl _ _) (p := ⟨g, 2, none⟩) rfl _) fun k hk q => by have := h.own.lt hk; omega), h.lim, h.len, hb⟩
end
/-- what entries appended to are -/
structure GrownE (base B : Nat) (ub : Option Nat) (l : List Ent.E) (v : Value) (w : World) : Prop where
  own : OE 33 base w v l
  at_ : v.ownBlock = ub ∨ ∃ g, v.ownBlock = some g ∧ B ≤ g
theorem GrownE.ext {base B : Nat} {ub : Option Nat} {l : List Ent.E} {v : Value} {w w' : World} (h : GrownE base B ub l v w) (he : Ext w w') : GrownE base B ub l v w' := ⟨h.own.ext he, h.at_⟩
theorem ext_own {E base : Nat} {w w' : World} {v : Value} {l : List Ent.E} {Q : Nat → Prop} (h : OE E base w v l) (he : ExtQ Q w w') (hq : ∀ k, v.ownBlock = some k → ¬ Q k) : OE E base w' v l := OE.mk (ownsRow_extQ h.own he hq)
theorem frz_block {w w' : World} {p : Addr} (h : w'.heap[p.block]? = w.heap[p.block]?) : w'.frozen? p = w.frozen? p := by simp [World.frozen?, h]

set_option maxRecDepth 100000 in
set_option maxHeartbeats 400000 in
theorem new_bad (n : Int) (w : World) (hn : n < 1 ∨ 4096 < n) :
    Calls Try.prog 9 #[.int .i64 n] w fun e w' => e = .returned (.tuple #[.pointer none, .int .i64 1]) ∧ w = w' := by
  by_cases h1 : n < 1
  · clear hn
    go_enter Try.func9, Try.ntmps9
    go_wp2
    go_ret2
    exact ⟨rfl, rfl⟩
  · have h2 : 4096 < n := by omega
    clear hn
    go_enter Try.func9, Try.ntmps9
    go_wp2
    go_ret2
    exact ⟨rfl, rfl⟩
set_option maxRecDepth 100000 in
set_option maxHeartbeats 400000 in
theorem new_ok (n : Int) (w : World) (hn : 1 ≤ n) (hm : n ≤ 4096) :
    Calls Try.prog 9 #[.int .i64 n] w fun e w' => e = .returned (.tuple #[.pointer (some ⟨w.heap.size, 0, none⟩), .int .i64 0]) ∧ RunI 59 w' w.heap.size (.slice none 0 0) [] n 0 ∧ Ext w w' := by
  have g1 : ¬ n < 1 := by omega
  have g2 : ¬ 4096 < n := by omega
  have HI := Lib.hid (show RunI 59 (w.alloc (.cells #[.slice none 0 0, .int .i64 n, .int .i64 0] 59)) w.heap.size (.slice none 0 0) [] n 0 from ⟨Blk.new _ _ _, OE.nilS _ _ _, ⟨hn, hm⟩, by simp; omega, by omega, by omega⟩)
  have HX := Lib.hid ((Ext.refl w).alloc (.cells #[.slice none 0 0, .int .i64 n, .int .i64 0] 59))
  clear hn hm
  go_enter Try.func9, Try.ntmps9
  go_wp2
  go_ret2
  exact ⟨rfl, HI.out, HX.out⟩
set_option maxRecDepth 100000 in
set_option maxHeartbeats 400000 in
theorem made_nil (w : World) : Calls Try.prog 26 #[.pointer none] w fun e w' => e = .returned (.bool false) ∧ w = w' := by
  go_enter Try.func26, Try.ntmps26
  go_wp2
  go_ret
  exact ⟨rfl, rfl⟩
set_option maxRecDepth 100000 in
set_option maxHeartbeats 400000 in
theorem made_any {w : World} {g : Nat} {lv : Value} {l : List Ent.E} {a b : Int} (h : RunI 59 w g lv l a b) : Calls Try.prog 26 #[.pointer (some ⟨g, 0, none⟩)] w fun e w' => e = .returned (.bool true) ∧ w = w' := by
  obtain ⟨c0, c1, c2, -, -⟩ := h.cells
  have g1 : 0 < a := by have := h.lim; omega
  clear h
  go_enter Try.func26, Try.ntmps26
  go_wp2
  go_ret
  exact ⟨rfl, rfl⟩
set_option maxRecDepth 100000 in
set_option maxHeartbeats 400000 in
theorem len_any {w : World} {g : Nat} {lv : Value} {l : List Ent.E} {a b : Int} (h : RunI 59 w g lv l a b) : Calls Try.prog 13 #[.pointer (some ⟨g, 0, none⟩)] w fun e w' => e = .returned (.int .i64 (l.length : Int)) ∧ w = w' := by
  obtain ⟨c0, c1, c2, -, -⟩ := h.cells
  obtain ⟨A, c, rfl⟩ := h.own.re.form
  have HM := Lib.hid (made_any h)
  clear h
  go_enter Try.func13, Try.ntmps13
  go_wp2_with fail
  refine HM.out.mono ?_
  rintro e w' ⟨rfl, rfl⟩
  go_wp2
  go_ret
  exact ⟨rfl, rfl⟩
set_option maxRecDepth 100000 in
set_option maxHeartbeats 400000 in
theorem limit_any {w : World} {g : Nat} {lv : Value} {l : List Ent.E} {a b : Int} (h : RunI 59 w g lv l a b) : Calls Try.prog 18 #[.pointer (some ⟨g, 0, none⟩)] w fun e w' => e = .returned (.int .i64 a) ∧ w = w' := by
  obtain ⟨c0, c1, c2, -, -⟩ := h.cells
  have HM := Lib.hid (made_any h)
  clear h
  go_enter Try.func18, Try.ntmps18
  go_wp2_with fail
  refine HM.out.mono ?_
  rintro e w' ⟨rfl, rfl⟩
  go_wp2
  go_ret
  exact ⟨rfl, rfl⟩
set_option maxRecDepth 100000 in
set_option maxHeartbeats 400000 in
theorem most_any {w : World} {g : Nat} {lv : Value} {l : List Ent.E} {a b : Int} (h : RunI 59 w g lv l a b) : Calls Try.prog 14 #[.pointer (some ⟨g, 0, none⟩)] w fun e w' => e = .returned (.int .i64 b) ∧ w = w' := by
  obtain ⟨c0, c1, c2, -, -⟩ := h.cells
  have HM := Lib.hid (made_any h)
  clear h
  go_enter Try.func14, Try.ntmps14
  go_wp2_with fail
  refine HM.out.mono ?_
  rintro e w' ⟨rfl, rfl⟩
  go_wp2
  go_ret
  exact ⟨rfl, rfl⟩
set_option maxRecDepth 100000 in
set_option maxHeartbeats 1000000 in
theorem all_any {w : World} {g : Nat} {lv : Value} {l : List Ent.E} {a b : Int} (h : RunI 59 w g lv l a b) : Calls Try.prog 15 #[.pointer (some ⟨g, 0, none⟩)] w fun e w' => ∃ u, e = .returned u ∧ OE 33 w.heap.size w' u (Ent.srt l) ∧ Ext w w' := by
  obtain ⟨c0, c1, c2, -, -⟩ := h.cells
  have hbd := h.bd
  have HM := Lib.hid (made_any h)
  have HCL := Lib.hid (cloneE_any lv l w h.own.re (by omega))
  have HSRT := Lib.hid (fun v w1 (h1 : OE 33 w.heap.size w1 v l) => sortE_any v l w.heap.size w1 h1 (by omega))
  clear h hbd
  go_enter Try.func15, Try.ntmps15
  go_wp2_with fail
  refine HM.out.mono ?_
  rintro e w' ⟨rfl, rfl⟩
  go_wp2_with fail
  refine HCL.out.mono ?_
  rintro e w1 ⟨v1, rfl, ho1, he1⟩
  have HO1 := Lib.hid ho1
  have HX1 := Lib.hid he1
  obtain ⟨A1, c1', rfl⟩ := ho1.re.form
  clear ho1 he1
  go_wp2_with fail
  refine (HSRT.out _ _ HO1.out).mono ?_
  rintro e w2 ⟨rfl, s, hp, hs, ho2, hg2⟩
  have hx2 : Ext w w2 := HX1.out.grown hg2 fun k hk => (HO1.out.own.lt k hk).1
  rw [Ent.srt_is (l := l) hs hp] at ho2
  have HO2 := Lib.hid ho2
  have HX2 := Lib.hid hx2
  clear ho2 hx2 hg2 hs hp
  go_wp2
  go_ret
  exact ⟨_, rfl, HO2.out, HX2.out⟩
set_option maxRecDepth 100000 in
set_option maxHeartbeats 1000000 in
theorem take_any {w : World} {g : Nat} {lv : Value} {l : List Ent.E} {a b : Int} (h : RunI 59 w g lv l a b) : Calls Try.prog 23 #[.pointer (some ⟨g, 0, none⟩)] w fun e w' => ∃ u, e = .returned u ∧ RE w' u (Ent.srt l) ∧ RunI 59 w' g (.slice none 0 0) [] a b ∧ ExtQ (RunQ g lv) w w' := by
  have HI := Lib.hid h
  have HAL := Lib.hid (all_any h)
  clear h
  go_enter Try.func23, Try.ntmps23
  go_wp2_with fail
  refine HAL.out.mono ?_
  rintro e w1 ⟨u, rfl, ho1, he1⟩
  have HI1 := Lib.hid (HI.out.ext he1)
  have HO1 := Lib.hid ho1
  have HX1 := Lib.hid he1
  have HM := Lib.hid (made_any HI1.out)
  obtain ⟨A1, c1', rfl⟩ := ho1.re.form
  obtain ⟨c0, c1, c2, f0, f2⟩ := HI1.out.cells
  clear ho1 he1
  go_wp2_with fail
  refine HM.out.mono ?_
  rintro e w' ⟨rfl, rfl⟩
  go_wp2
  go_ret
  refine ⟨_, rfl, (ext_own HO1.out (ExtQ.setCell (Q := fun k => k = g) (ExtQ.refl _ _) (p := ⟨g, 0, none⟩) rfl _) (fun k hk q => by have h1 := HO1.out.lt hk; have h2 := HI.out.blk.lt; omega)).re, RunI.put HI1.out.blk (OE.nilS _ _ _) HI.out.lim (by have := HI.out.lim; simp; omega) HI.out.most, ExtQ.setCell (ExtQ.of HX1.out) (p := ⟨g, 0, none⟩) (.inl rfl) _⟩
/-- what Add tells -/
def addE (l : List Ent.E) (a : Int) (x : Ent.E) : Int := if Ent.okE x ≠ 0 then Ent.okE x else if a ≤ (l.length : Int) then 2 else 0
def addL (l : List Ent.E) (a : Int) (x : Ent.E) : List Ent.E := if addE l a x = 0 then l ++ [x] else l
def addM (l : List Ent.E) (a b : Int) (x : Ent.E) : Int := if addE l a x = 0 then max b ((l.length + 1 : Nat) : Int) else b
theorem addE_bad {l : List Ent.E} {a : Int} {x : Ent.E} (h : Ent.okE x ≠ 0) : addE l a x = Ent.okE x := if_pos h
theorem addE_full {l : List Ent.E} {a : Int} {x : Ent.E} (h : Ent.okE x = 0) (hf : a ≤ (l.length : Int)) : addE l a x = 2 := by unfold addE; rw [if_neg (fun q => q h), if_pos hf]
theorem addE_ok {l : List Ent.E} {a : Int} {x : Ent.E} (h : Ent.okE x = 0) (hf : ¬ a ≤ (l.length : Int)) : addE l a x = 0 := by unfold addE; rw [if_neg (fun q => q h), if_neg hf]
theorem add_not {l : List Ent.E} {a b : Int} {x : Ent.E} (h : addE l a x ≠ 0) : addL l a x = l ∧ addM l a b x = b := ⟨if_neg h, if_neg h⟩
theorem add_yes {l : List Ent.E} {a b : Int} {x : Ent.E} (h : addE l a x = 0) : addL l a x = l ++ [x] ∧ addM l a b x = max b ((l.length + 1 : Nat) : Int) := ⟨if_pos h, if_pos h⟩
/-- what a call of Add makes of a run -/
def AddP (T : TypeId) (w : World) (g : Nat) (lv : Value) (l : List Ent.E) (a b : Int) (x : Ent.E) (e : Ending) (w' : World) : Prop :=
  e = .returned (.int .i64 (addE l a x)) ∧ ∃ lv', RunI T w' g lv' (addL l a x) a (addM l a b x) ∧ NewQ w lv lv' ∧ ExtQ (RunQ g lv) w w'
theorem AddP.not {T : TypeId} {w w' : World} {g : Nat} {lv : Value} {l : List Ent.E} {a b : Int} {x : Ent.E} {e : Ending} (hI : RunI T w g lv l a b) (h : addE l a x ≠ 0) (he : e = .returned (.int .i64 (addE l a x))) (hx : Ext w w') : AddP T w g lv l a b x e w' := by
  refine ⟨he, lv, ?_, NewQ.refl _ _, ExtQ.of hx⟩
  rw [(add_not (b := b) h).1, (add_not (b := b) h).2]
  exact hI.ext hx
/-- the steps of Add: the entry is laid behind, the block is told -/
theorem AddP.yes {T : TypeId} {w w5 w6 : World} {g : Nat} {lv v' : Value} {l : List Ent.E} {a b : Int} {x : Ent.E} (hI : RunI T w g lv l a b) (h : addE l a x = 0) (hx : Ext w w5) (hg : w5.grownBy w6 lv.ownBlock) (ho : GrownE (g + 1) w5.heap.size lv.ownBlock (l ++ [x]) v' w6) (hlt : (l.length : Int) < a) :
    RunI T (w6.setCell ⟨g, 0, none⟩ v') g v' (addL l a x) a b ∧ NewQ w lv v' ∧ ExtQ (RunQ g lv) w (w6.setCell ⟨g, 0, none⟩ v') ∧ Blk w6 g T #[lv, .int .i64 a, .int .i64 b] := by
  have hgl := hI.blk.lt
  have hb6 : Blk w6 g T #[lv, .int .i64 a, .int .i64 b] := (hI.blk.ext hx).extQ (ExtQ.grown (Q := fun k => lv.ownBlock = some k) hg fun k hk => hk) fun q => by have := hI.own.lt q; omega
  rw [(add_yes (b := b) h).1]
  refine ⟨RunI.put hb6 ho.own hI.lim (by simp; omega) hI.most, fun k hk => ?_, ExtQ.setCell ((ExtQ.of hx).trans (ExtQ.grown hg fun k hk => .inr hk)) (p := ⟨g, 0, none⟩) (.inl rfl) _, hb6⟩
  rcases ho.at_ with q | ⟨g2, q, q2⟩
  · exact .inl (q ▸ hk)
  · rw [q] at hk; injection hk with hk; have := hx.size; exact .inr (by omega)
theorem AddP.last {T : TypeId} {w w8 : World} {g : Nat} {lv v' : Value} {l : List Ent.E} {a b b' : Int} {x : Ent.E} {e : Ending} (h0 : RunI T w g lv l a b) (hI : RunI T w8 g v' (addL l a x) a b) (h : addE l a x = 0) (hn : NewQ w lv v') (he : ExtQ (RunQ g lv) w w8) (hb : b' = max b ((l.length + 1 : Nat) : Int)) (hr : e = .returned (.int .i64 0)) (hlt : (l.length : Int) < a) :
    AddP T w g lv l a b x e (w8.setCell ⟨g, 2, none⟩ (.int .i64 b')) := by
  subst hb
  refine ⟨by rw [h]; exact hr, v', ?_, hn, ExtQ.setCell he (p := ⟨g, 2, none⟩) (.inl rfl) _⟩
  rw [(add_yes (b := b) h).2]
  exact hI.setMost (by have := h0.most; have := h0.lim; omega)
theorem AddP.same {T : TypeId} {w w8 : World} {g : Nat} {lv v' : Value} {l : List Ent.E} {a b : Int} {x : Ent.E} {e : Ending} (hI : RunI T w8 g v' (addL l a x) a b) (h : addE l a x = 0) (hn : NewQ w lv v') (he : ExtQ (RunQ g lv) w w8) (hb : b = max b ((l.length + 1 : Nat) : Int)) (hr : e = .returned (.int .i64 0)) :
    AddP T w g lv l a b x e w8 := by
  refine ⟨by rw [h]; exact hr, v', ?_, hn, he⟩
  rw [(add_yes (b := b) h).2, ← hb]
  exact hI
set_option maxRecDepth 100000 in
set_option maxHeartbeats 4000000 in
theorem add_any (x : Ent.E) {w : World} {g : Nat} {lv : Value} {l : List Ent.E} {a b : Int} (h : RunI 59 w g lv l a b) : Calls Try.prog 10 #[.pointer (some ⟨g, 0, none⟩), entV x] w (AddP 59 w g lv l a b x) := by
  have HCK := Lib.hid (fun w => checkE_any x w)
  have HNOT := Lib.hid (fun e w' h1 h2 h3 => @AddP.not _ w w' g lv l a b x e h h1 h2 h3)
  have HYES := Lib.hid (fun w5 w6 v' h1 h2 h3 h4 h5 => @AddP.yes _ w w5 w6 g lv v' l a b x h h1 h2 h3 h4 h5)
  have HLAST := Lib.hid (fun w8 v' b' e h1 h2 h3 h4 h5 h6 h7 => @AddP.last _ w w8 g lv v' l a b b' x e h h1 h2 h3 h4 h5 h6 h7)
  have HI := Lib.hid h
  have HBD := Lib.hid h.bd
  have HBAD := Lib.hid (@addE_bad l a x)
  have HFULL := Lib.hid (@addE_full l a x)
  have HOK := Lib.hid (@addE_ok l a x)
  have HMOST := Lib.hid h.most
  have HHI := Lib.hid h.lim
  obtain ⟨⟨x1, x2⟩, x3, x4⟩ := x
  have HX0 := Lib.hid ((Ext.refl w).alloc (.cells #[.int .i64 x1, .int .i64 x2, .int .i64 x3, .int .i64 x4] 33))
  have HB0 := Lib.hid (Bx4.new w 33 x1 x2 x3 x4)
  have HM := Lib.hid (made_any (h.ext HX0.out))
  generalize Ent.okE ((x1, x2), x3, x4) = ok at *
  obtain ⟨A, c, rfl⟩ := h.own.re.form
  clear h
  go_enter Try.func10, Try.ntmps10
  go_upto_region 1 with fail
  generalize w.heap.size = p at *
  generalize w.alloc (.cells #[.int .i64 x1, .int .i64 x2, .int .i64 x3, .int .i64 x4] 33) = w0 at *
  obtain ⟨y0, y1, y2, y3⟩ := HB0.out
  go_wp2_with fail
  refine HM.out.mono ?_
  rintro e w' ⟨rfl, rfl⟩
  go_wp2_with fail
  refine (HCK.out _).mono ?_
  rintro e w1 ⟨rfl, he1⟩
  have HX1 := Lib.hid (HX0.out.trans he1)
  have HB1 := Lib.hid (HB0.out.ext he1)
  clear he1 y0 y1 y2 y3
  by_cases hok : ok = 0
  · have HFU2 := Lib.hid (fun h => HFULL.out hok h)
    have HOK2 := Lib.hid (fun h => HOK.out hok h)
    clear HFULL HOK HBAD
    subst hok
    obtain ⟨y0, y1, y2, y3⟩ := HB1.out
    have HI1 := Lib.hid (HI.out.ext HX1.out)
    obtain ⟨c0, c1, c2, f0, f2⟩ := HI1.out.cells
    have hbd : l.length ≤ 4096 := HBD.out
    go_wp2
    refine wp_regionY [] [] Ext Ext (fun _ => True) (by kernel_rfl) (by rfl) (by rfl) (by kernel_rfl) (by kernel_rfl) (by kernel_rfl) (fun _ _ _ x y => x.trans y) Ext.refl (fun _ _ x => x) (Ext.refl _).drew (fun _ _ x _ => x) trivial ?_
    repeat (first | (refine wpY_move0 rfl rfl (by first | exact runs0 | exact runs1 rfl) Ext.refl rfl rfl rfl ?_; apply Exists.intro; refine ⟨?_, ?_⟩; · (go_simp; rfl)) | (refine wpY_move rfl rfl (by first | exact runs0 | exact runs1 rfl) Ext.refl rfl rfl rfl (fun _ _ _ h _ => h) ?_) | (refine wpY_val rfl rfl (by first | exact runs0 | exact runs1 rfl) Ext.refl rfl ?_; apply Exists.intro; refine ⟨?_, ?_⟩; · (intro a w' hR; intro h1; (first | (have e1 : _ = _ := h1) | skip); intro h2; (first | (have e2 : _ = _ := h2) | skip); go_simp; rfl)) | (refine wpY_val rfl rfl (by first | exact runs0 | exact runs1 rfl) Ext.refl rfl ?_; apply Exists.intro; refine ⟨?_, ?_⟩; · (intro a w' hR; intro h1; (first | (have e1 : _ = _ := h1) | skip); go_simp; rfl)) | (refine wpY_val rfl rfl (by first | exact runs0 | exact runs1 rfl) Ext.refl rfl ?_; apply Exists.intro; refine ⟨?_, ?_⟩; · (intro a w' hR; go_simp; rfl)) | (refine wpY_val rfl rfl (by first | exact runs0 | exact runs1 rfl) Ext.refl rfl ?_; apply Exists.intro; refine ⟨?_, ?_⟩; · (intro a w' hR; intro h1; (first | (have e1 : _ = _ := h1) | skip); intro h2; (first | (have e2 : _ = _ := h2) | skip); intro h3; (first | (have e3 : _ = _ := h3) | skip); go_simp; rfl)) | (refine wpY_skip rfl rfl (by first | exact .inl rfl | exact .inr rfl) ?_))
    refine wpY_val rfl rfl (by first | exact runs0 | exact runs1 rfl) Ext.refl rfl ?_; apply Exists.intro; refine ⟨?_, ?_⟩
    · intro a w' hR h1
      have e1 : _ = _ := h1
      have hl0 := hR.cell c0
      go_simp
      rfl
    repeat (first | (refine wpY_move0 rfl rfl (by first | exact runs0 | exact runs1 rfl) Ext.refl rfl rfl rfl ?_; apply Exists.intro; refine ⟨?_, ?_⟩; · (go_simp; rfl)) | (refine wpY_move rfl rfl (by first | exact runs0 | exact runs1 rfl) Ext.refl rfl rfl rfl (fun _ _ _ h _ => h) ?_) | (refine wpY_val rfl rfl (by first | exact runs0 | exact runs1 rfl) Ext.refl rfl ?_; apply Exists.intro; refine ⟨?_, ?_⟩; · (intro a w' hR; intro h1; (first | (have e1 : _ = _ := h1) | skip); intro h2; (first | (have e2 : _ = _ := h2) | skip); go_simp; rfl)) | (refine wpY_val rfl rfl (by first | exact runs0 | exact runs1 rfl) Ext.refl rfl ?_; apply Exists.intro; refine ⟨?_, ?_⟩; · (intro a w' hR; intro h1; (first | (have e1 : _ = _ := h1) | skip); go_simp; rfl)) | (refine wpY_val rfl rfl (by first | exact runs0 | exact runs1 rfl) Ext.refl rfl ?_; apply Exists.intro; refine ⟨?_, ?_⟩; · (intro a w' hR; go_simp; rfl)) | (refine wpY_val rfl rfl (by first | exact runs0 | exact runs1 rfl) Ext.refl rfl ?_; apply Exists.intro; refine ⟨?_, ?_⟩; · (intro a w' hR; intro h1; (first | (have e1 : _ = _ := h1) | skip); intro h2; (first | (have e2 : _ = _ := h2) | skip); intro h3; (first | (have e3 : _ = _ := h3) | skip); go_simp; rfl)) | (refine wpY_skip rfl rfl (by first | exact .inl rfl | exact .inr rfl) ?_))
    refine wpY_val rfl rfl (by first | exact runs0 | exact runs1 rfl) Ext.refl rfl ?_; apply Exists.intro; refine ⟨?_, ?_⟩
    · intro a w' hR h1
      have e1 : _ = _ := h1
      have hl0 := hR.cell c1
      go_simp
      rfl
    repeat (first | (refine wpY_move0 rfl rfl (by first | exact runs0 | exact runs1 rfl) Ext.refl rfl rfl rfl ?_; apply Exists.intro; refine ⟨?_, ?_⟩; · (go_simp; rfl)) | (refine wpY_move rfl rfl (by first | exact runs0 | exact runs1 rfl) Ext.refl rfl rfl rfl (fun _ _ _ h _ => h) ?_) | (refine wpY_val rfl rfl (by first | exact runs0 | exact runs1 rfl) Ext.refl rfl ?_; apply Exists.intro; refine ⟨?_, ?_⟩; · (intro a w' hR; intro h1; (first | (have e1 : _ = _ := h1) | skip); intro h2; (first | (have e2 : _ = _ := h2) | skip); go_simp; rfl)) | (refine wpY_val rfl rfl (by first | exact runs0 | exact runs1 rfl) Ext.refl rfl ?_; apply Exists.intro; refine ⟨?_, ?_⟩; · (intro a w' hR; intro h1; (first | (have e1 : _ = _ := h1) | skip); go_simp; rfl)) | (refine wpY_val rfl rfl (by first | exact runs0 | exact runs1 rfl) Ext.refl rfl ?_; apply Exists.intro; refine ⟨?_, ?_⟩; · (intro a w' hR; go_simp; rfl)) | (refine wpY_val rfl rfl (by first | exact runs0 | exact runs1 rfl) Ext.refl rfl ?_; apply Exists.intro; refine ⟨?_, ?_⟩; · (intro a w' hR; intro h1; (first | (have e1 : _ = _ := h1) | skip); intro h2; (first | (have e2 : _ = _ := h2) | skip); intro h3; (first | (have e3 : _ = _ := h3) | skip); go_simp; rfl)) | (refine wpY_skip rfl rfl (by first | exact .inl rfl | exact .inr rfl) ?_))
    refine wpY_done ?_
    intro w2 hx2 hS
    iterate 10 (rintro _ rfl)
    dsimp only [FinV]
    go_simp
    have hx2 : Ext w1 w2 := hx2
    have HX2 := Lib.hid (HX1.out.trans hx2)
    have HB2 := Lib.hid (HB1.out.ext hx2)
    have HI2 := Lib.hid (HI1.out.ext hx2)
    clear c0 c1 c2 f0 f2 y0 y1 y2 y3 hx2 hS
    by_cases hf : a ≤ (l.length : Int)
    · have HE := Lib.hid (HFU2.out (by omega))
      go_wp2
      go_ret
      exact HNOT.out _ _ (by rw [HE.out]; decide) (by rw [HE.out]; rfl) HX2.out
    · have HE := Lib.hid (HOK2.out (by omega))
      have HLT := Lib.hid (show (l.length : Int) < a by omega)
      obtain ⟨y0, y1, y2, y3⟩ := HB2.out
      obtain ⟨c0, c1, c2, f0, f2⟩ := HI2.out.cells
      have HO2 := Lib.hid HI2.out.own
      have HSZ2 := Lib.hid (show g + 1 ≤ w2.heap.size from HI2.out.blk.lt)
      go_upto_region 8 with fail
      refine wp_region_tailZ 10 [31] [28, 29, 30] Ext (fun a b => a.grownBy b (Value.ownBlock (.slice A l.length c))) (Ext _) (by kernel_rfl) (by kernel_rfl) (by kernel_rfl) (by kernel_rfl) (by kernel_rfl) (by kernel_rfl) (by kernel_rfl) (by rfl) (by rfl) (by kernel_rfl) (by kernel_rfl) (by kernel_rfl) (fun _ _ _ x y => x.trans y) (fun _ => World.grownBy.refl _ _) (fun _ _ x => ⟨x.os, x.tape, x.output, x.size, fun _ hk _ => x.block hk⟩) Ext.refl (Ext.refl _).drew (fun _ _ x y => x.trans y) (Ext.refl _) ?_
      repeat (first | (refine wpZ_move0 rfl rfl (fun _ => (by first | exact runs0 | exact runs1 rfl)) Ext.refl rfl rfl (fun _ => rfl) ?_; apply Exists.intro; refine ⟨?_, ?_⟩; · (go_simp; rfl)) | (refine wpZ_val rfl rfl (fun _ => (by first | exact runs0 | exact runs1 rfl)) Ext.refl rfl ?_; apply Exists.intro; refine ⟨?_, ?_⟩; · (intro c a w' hR; intro h1; (first | (have e1 : _ = _ := h1) | skip); intro h2; (first | (have e2 : _ = _ := h2) | skip); go_simp; rfl)) | (refine wpZ_val rfl rfl (fun _ => (by first | exact runs0 | exact runs1 rfl)) Ext.refl rfl ?_; apply Exists.intro; refine ⟨?_, ?_⟩; · (intro c a w' hR; intro h1; (first | (have e1 : _ = _ := h1) | skip); go_simp; rfl)) | (refine wpZ_val rfl rfl (fun _ => (by first | exact runs0 | exact runs1 rfl)) Ext.refl rfl ?_; apply Exists.intro; refine ⟨?_, ?_⟩; · (intro c a w' hR; go_simp; rfl)) | (refine wpZ_val rfl rfl (fun _ => (by first | exact runs0 | exact runs1 rfl)) Ext.refl rfl ?_; apply Exists.intro; refine ⟨?_, ?_⟩; · (intro c a w' hR; intro h1; (first | (have e1 : _ = _ := h1) | skip); intro h2; (first | (have e2 : _ = _ := h2) | skip); intro h3; (first | (have e3 : _ = _ := h3) | skip); go_simp; rfl)))
      refine wpZ_callA (fun _ v _ => v = .slice A l.length c) rfl rfl (by first | exact runs0 | exact runs1 rfl) rfl (keptC_eq) ?_ ?_
      · intro a w' hR hS h1 K hK
        have e1 : _ = _ := h1
        have hl := (show Ext w2 w' from hS).cell c0
        go_simp
        exact hK _ _ (Ext.refl _) rfl
      refine wpZ_callA (fun _ v _ => v = .agg #[.int .i64 x1, .int .i64 x2, .int .i64 x3, .int .i64 x4]) rfl rfl (by first | exact runs0 | exact runs1 rfl) rfl (keptC_eq) ?_ ?_
      · intro a w' hR hS h1 K hK
        have e1 : _ = _ := h1
        have hl0 := (show Ext w2 w' from hS).cell y0
        have hl1 := (show Ext w2 w' from hS).cell y1
        have hl2 := (show Ext w2 w' from hS).cell y2
        have hl3 := (show Ext w2 w' from hS).cell y3
        go_simp
        exact hK _ _ (Ext.refl _) rfl
      refine wpZ_callA (fun c v w => c ≤ 0 → RE w v [(((x1, x2), x3, x4) : Ent.E)]) rfl rfl (by first | exact runs0 | exact runs1 rfl) rfl (keptC_0 fun _ _ _ h k => RE.ext h k) ?_ ?_
      · intro a w' hR hS h1 K hK
        have e1 : _ = _ := h1
        have q9 : a.tmps[29]?.getD undef = .agg #[.int .i64 x1, .int .i64 x2, .int .i64 x3, .int .i64 x4] := by simpa using e1
        go_simp
        exact hK _ _ ((Ext.refl _).alloc _) fun _ => RE.lit _ #[.int .i64 x1, .int .i64 x2, .int .i64 x3, .int .i64 x4] 33 1 [(((x1, x2), x3, x4) : Ent.E)] rfl (by omega) rfl
      refine wpZ_eff (fun c9 v w => 1 ≤ c9 ∧ (c9 ≤ 1 → GrownE (g + 1) w2.heap.size (Value.ownBlock (.slice A l.length c)) (l ++ [(((x1, x2), x3, x4) : Ent.E)]) v w)) (fun _ => True) rfl (by first | exact runs0 | exact runs1 rfl) rfl (keptC_at fun _ _ _ h k => GrownE.ext h k) (fun _ _ _ _ => trivial) ?_ ?_
      · intro a w' hR hS h1 h2 K hK
        have e1 : _ = _ := h1
        obtain ⟨y, ey, fy⟩ : ∃ x, a.tmps.getD 30 undef = x ∧ (fun v w => 0 ≤ 0 → RE w v [(((x1, x2), x3, x4) : Ent.E)]) x w' := ⟨_, rfl, h2⟩
        have hfy := fy (Nat.le_refl _)
        have hS' : Ext w2 w' := hS
        refine wp_app elemE _ (.tmp 28) (.tmp 30) rfl (g + 1) _ l.length (eV l) e1 (HO2.out.ext hS').own y 1 (eV [(((x1, x2), x3, x4) : Ent.E)]) ey (RE.rd hfy) (one_eV _) (by have := HBD.out; omega) (by have := HBD.out; unfold maxLen; omega) (Nat.le_trans HSZ2.out hS'.size) ?_
        intro v' w2 ha
        exact hK _ _ ha.grown trivial ⟨Nat.le_refl _, fun _ => ⟨OE.app ha.own, ha.at_.imp_right fun h => ⟨_, h, hS'.size⟩⟩⟩
      repeat (first | (refine wpZ_move0 rfl rfl (fun _ => (by first | exact runs0 | exact runs1 rfl)) Ext.refl rfl rfl (fun _ => rfl) ?_; apply Exists.intro; refine ⟨?_, ?_⟩; · (go_simp; rfl)) | (refine wpZ_val rfl rfl (fun _ => (by first | exact runs0 | exact runs1 rfl)) Ext.refl rfl ?_; apply Exists.intro; refine ⟨?_, ?_⟩; · (intro c a w' hR; intro h1; (first | (have e1 : _ = _ := h1) | skip); intro h2; (first | (have e2 : _ = _ := h2) | skip); go_simp; rfl)) | (refine wpZ_val rfl rfl (fun _ => (by first | exact runs0 | exact runs1 rfl)) Ext.refl rfl ?_; apply Exists.intro; refine ⟨?_, ?_⟩; · (intro c a w' hR; intro h1; (first | (have e1 : _ = _ := h1) | skip); go_simp; rfl)) | (refine wpZ_val rfl rfl (fun _ => (by first | exact runs0 | exact runs1 rfl)) Ext.refl rfl ?_; apply Exists.intro; refine ⟨?_, ?_⟩; · (intro c a w' hR; go_simp; rfl)) | (refine wpZ_val rfl rfl (fun _ => (by first | exact runs0 | exact runs1 rfl)) Ext.refl rfl ?_; apply Exists.intro; refine ⟨?_, ?_⟩; · (intro c a w' hR; intro h1; (first | (have e1 : _ = _ := h1) | skip); intro h2; (first | (have e2 : _ = _ := h2) | skip); intro h3; (first | (have e3 : _ = _ := h3) | skip); go_simp; rfl)))
      refine wpZ_done ?_
      intro w6 hx6 hS6
      iterate 6 (rintro _ rfl)
      rintro v30 h30
      rintro v31 h31
      iterate 2 (rintro _ rfl)
      dsimp only [FinV]
      go_simp
      have hx6 : w2.grownBy w6 (Value.ownBlock (.slice A l.length c)) := hx6
      have hgr := h31.2 (Nat.le_refl _)
      obtain ⟨hi6, hnq6, hq6, hb6⟩ := HYES.out w2 w6 v31 HE.out HX2.out hx6 hgr HLT.out
      have f0 : w6.frozen? ⟨g, 0, none⟩ = false := hb6.frozen 0
      have d0 : w6.cell? ⟨g, 0, none⟩ = some (.slice A l.length c) := hb6.cell 0
      obtain ⟨A31, c31, hv31⟩ := hgr.own.re.form
      have hel : addL l a ((x1, x2), x3, x4) = l ++ [((x1, x2), x3, x4)] := (add_yes (b := b) HE.out).1
      have HI6 := Lib.hid hi6
      have HQ6 := Lib.hid hq6
      have HN6 := Lib.hid hnq6
      obtain ⟨n, hn⟩ : ∃ n, n = l.length + 1 := ⟨_, rfl⟩
      rw [List.length_append, List.length_singleton, ← hn] at hv31
      have HN1 := Lib.hid hn
      clear hn hx6 hgr hb6 h30 h31 hS6 hi6 hq6 hnq6 hel
      subst hv31
      simp only [thenTail, List.drop_succ_cons, List.drop_zero]
      go_wp2
      generalize w6.setCell ⟨g, 0, none⟩ (.slice A31 n c31) = w8 at *
      obtain ⟨z0, z1, z2, k0, k2⟩ := HI6.out.cells
      clear c0 c1 c2 d0 f0 f2 y0 y1 y2 y3
      have hnb : n ≤ 5000 := by have := HN1.out; have := HBD.out; omega
      refine wp_region_tailY 13 [] [] Ext Ext (fun _ => True) (by kernel_rfl) (by kernel_rfl) (by kernel_rfl) (by kernel_rfl) (by kernel_rfl) (by kernel_rfl) (by kernel_rfl) (by rfl) (by rfl) (by kernel_rfl) (by kernel_rfl) (by kernel_rfl) (fun _ _ _ x y => x.trans y) Ext.refl (fun _ _ x => x) (Ext.refl _).drew (fun _ _ x _ => x) trivial ?_
      repeat (first | (refine wpY_move0 rfl rfl (by first | exact runs0 | exact runs1 rfl) Ext.refl rfl rfl rfl ?_; apply Exists.intro; refine ⟨?_, ?_⟩; · (go_simp; rfl)) | (refine wpY_move rfl rfl (by first | exact runs0 | exact runs1 rfl) Ext.refl rfl rfl rfl (fun _ _ _ h _ => h) ?_) | (refine wpY_val rfl rfl (by first | exact runs0 | exact runs1 rfl) Ext.refl rfl ?_; apply Exists.intro; refine ⟨?_, ?_⟩; · (intro a w' hR; intro h1; (first | (have e1 : _ = _ := h1) | skip); intro h2; (first | (have e2 : _ = _ := h2) | skip); go_simp; rfl)) | (refine wpY_val rfl rfl (by first | exact runs0 | exact runs1 rfl) Ext.refl rfl ?_; apply Exists.intro; refine ⟨?_, ?_⟩; · (intro a w' hR; intro h1; (first | (have e1 : _ = _ := h1) | skip); go_simp; rfl)) | (refine wpY_val rfl rfl (by first | exact runs0 | exact runs1 rfl) Ext.refl rfl ?_; apply Exists.intro; refine ⟨?_, ?_⟩; · (intro a w' hR; go_simp; rfl)) | (refine wpY_val rfl rfl (by first | exact runs0 | exact runs1 rfl) Ext.refl rfl ?_; apply Exists.intro; refine ⟨?_, ?_⟩; · (intro a w' hR; intro h1; (first | (have e1 : _ = _ := h1) | skip); intro h2; (first | (have e2 : _ = _ := h2) | skip); intro h3; (first | (have e3 : _ = _ := h3) | skip); go_simp; rfl)) | (refine wpY_skip rfl rfl (by first | exact .inl rfl | exact .inr rfl) ?_))
      refine wpY_val rfl rfl (by first | exact runs0 | exact runs1 rfl) Ext.refl rfl ?_; apply Exists.intro; refine ⟨?_, ?_⟩
      · intro a w' hR h1
        have e1 : _ = _ := h1
        have hl0 := hR.cell z2
        go_simp
        rfl
      repeat (first | (refine wpY_move0 rfl rfl (by first | exact runs0 | exact runs1 rfl) Ext.refl rfl rfl rfl ?_; apply Exists.intro; refine ⟨?_, ?_⟩; · (go_simp; rfl)) | (refine wpY_move rfl rfl (by first | exact runs0 | exact runs1 rfl) Ext.refl rfl rfl rfl (fun _ _ _ h _ => h) ?_) | (refine wpY_val rfl rfl (by first | exact runs0 | exact runs1 rfl) Ext.refl rfl ?_; apply Exists.intro; refine ⟨?_, ?_⟩; · (intro a w' hR; intro h1; (first | (have e1 : _ = _ := h1) | skip); intro h2; (first | (have e2 : _ = _ := h2) | skip); go_simp; rfl)) | (refine wpY_val rfl rfl (by first | exact runs0 | exact runs1 rfl) Ext.refl rfl ?_; apply Exists.intro; refine ⟨?_, ?_⟩; · (intro a w' hR; intro h1; (first | (have e1 : _ = _ := h1) | skip); go_simp; rfl)) | (refine wpY_val rfl rfl (by first | exact runs0 | exact runs1 rfl) Ext.refl rfl ?_; apply Exists.intro; refine ⟨?_, ?_⟩; · (intro a w' hR; go_simp; rfl)) | (refine wpY_val rfl rfl (by first | exact runs0 | exact runs1 rfl) Ext.refl rfl ?_; apply Exists.intro; refine ⟨?_, ?_⟩; · (intro a w' hR; intro h1; (first | (have e1 : _ = _ := h1) | skip); intro h2; (first | (have e2 : _ = _ := h2) | skip); intro h3; (first | (have e3 : _ = _ := h3) | skip); go_simp; rfl)) | (refine wpY_skip rfl rfl (by first | exact .inl rfl | exact .inr rfl) ?_))
      refine wpY_val rfl rfl (by first | exact runs0 | exact runs1 rfl) Ext.refl rfl ?_; apply Exists.intro; refine ⟨?_, ?_⟩
      · intro a w' hR h1
        have e1 : _ = _ := h1
        have hl0 := hR.cell z0
        go_simp
        rfl
      repeat (first | (refine wpY_move0 rfl rfl (by first | exact runs0 | exact runs1 rfl) Ext.refl rfl rfl rfl ?_; apply Exists.intro; refine ⟨?_, ?_⟩; · (go_simp; rfl)) | (refine wpY_move rfl rfl (by first | exact runs0 | exact runs1 rfl) Ext.refl rfl rfl rfl (fun _ _ _ h _ => h) ?_) | (refine wpY_val rfl rfl (by first | exact runs0 | exact runs1 rfl) Ext.refl rfl ?_; apply Exists.intro; refine ⟨?_, ?_⟩; · (intro a w' hR; intro h1; (first | (have e1 : _ = _ := h1) | skip); intro h2; (first | (have e2 : _ = _ := h2) | skip); go_simp; rfl)) | (refine wpY_val rfl rfl (by first | exact runs0 | exact runs1 rfl) Ext.refl rfl ?_; apply Exists.intro; refine ⟨?_, ?_⟩; · (intro a w' hR; intro h1; (first | (have e1 : _ = _ := h1) | skip); go_simp; rfl)) | (refine wpY_val rfl rfl (by first | exact runs0 | exact runs1 rfl) Ext.refl rfl ?_; apply Exists.intro; refine ⟨?_, ?_⟩; · (intro a w' hR; go_simp; rfl)) | (refine wpY_val rfl rfl (by first | exact runs0 | exact runs1 rfl) Ext.refl rfl ?_; apply Exists.intro; refine ⟨?_, ?_⟩; · (intro a w' hR; intro h1; (first | (have e1 : _ = _ := h1) | skip); intro h2; (first | (have e2 : _ = _ := h2) | skip); intro h3; (first | (have e3 : _ = _ := h3) | skip); go_simp; rfl)) | (refine wpY_skip rfl rfl (by first | exact .inl rfl | exact .inr rfl) ?_))
      refine wpY_done ?_
      intro w9 hx9 hS
      iterate 13 (rintro _ rfl)
      dsimp only [FinV]
      go_simp
      have hx9 : Ext w8 w9 := hx9
      have HI9 := Lib.hid (HI6.out.ext hx9)
      obtain ⟨-, -, y9, -, k9⟩ := HI9.out.cells
      have HQ9 := Lib.hid (HQ6.out.trans (ExtQ.of hx9))
      simp only [thenTail, List.drop_succ_cons, List.drop_zero]
      go_wp2
      go_ret
      exact HLAST.out w9 _ (max b (n : Int)) _ HI9.out HE.out HN6.out HQ9.out (by rw [← HN1.out]) rfl HLT.out
  · have HE := Lib.hid (HBAD.out hok)
    have hk2 : (ok != 0) = true := by simpa using hok
    clear hok
    go_wp2
    go_ret
    exact HNOT.out _ _ (by rw [HE.out]; simpa using hk2) (by rw [HE.out]; rfl) HX1.out
end Go.Proofs.Ytbokblklldphgaa
