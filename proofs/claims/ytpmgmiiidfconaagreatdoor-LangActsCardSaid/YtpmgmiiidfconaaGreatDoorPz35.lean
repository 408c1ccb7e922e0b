/-
  LaBld, LaLine, packed: what the claim needs of them.
-/
import Derived.Test.YtpmgmiiidfconaaGreatDoorPz14
import Derived.Lib.AppendStr
import Derived.Lib.UnsafeStr
import Derived.Lib.Builder
import Derived.Laws.Externs
import Derived.Test.YtpmgmiiidfconaaGreatDoorPz24
set_option linter.unusedVariables false
set_option linter.unusedSimpArgs false
namespace Go.Ox.La
open Go Go.Lib Go.Ox Go.RowKit
/-- a writer in block p: its builder holds l, in memory from B on -/
structure WB (T E B p : Nat) (w : World) (l : List UInt8) : Prop where
  low : B ≤ p
  b : ∃ a v, (a = .pointer none ∨ a = .pointer (some ⟨p, 0, none⟩)) ∧ Blk w p T #[a, v] ∧ OB E B w v l ∧ v.ownBlock ≠ some p
/-- .. which has been written to -/
structure WU (T E B p : Nat) (w : World) (l : List UInt8) : Prop where
  low : B ≤ p
  b : ∃ v, Blk w p T #[.pointer (some ⟨p, 0, none⟩), v] ∧ OB E B w v l ∧ v.ownBlock ≠ some p
theorem WU.wb {T E B p : Nat} {w : World} {l : List UInt8} (h : WU T E B p w l) : WB T E B p w l := by
  obtain ⟨v, h1, h2, h3⟩ := h.b
  exact ⟨h.low, _, v, .inr rfl, h1, h2, h3⟩
theorem WB.lt {T E B p : Nat} {w : World} {l : List UInt8} (h : WB T E B p w l) : p < w.heap.size := by
  obtain ⟨a, v, h1, h2, h3, h4⟩ := h.b
  exact h2.lt
theorem WB.ext {T E B p : Nat} {w w' : World} {l : List UInt8} (h : WB T E B p w l) (he : Ext w w') : WB T E B p w' l := by
  obtain ⟨a, v, h1, h2, h3, h4⟩ := h.b
  exact ⟨h.low, a, v, h1, h2.ext he, h3.ext he, h4⟩
/-- what a writer's steps leave: all below B, all but its block and rows of E -/
structure WF (E B p : Nat) (w w' : World) : Prop where
  b : Below B w w'
  k : ∀ k, k < w.heap.size → k ≠ p → (∀ cs fz, w.heap[k]? ≠ some (.cells cs E fz)) → w'.heap[k]? = w.heap[k]?
theorem WF.refl (E B p : Nat) (w : World) : WF E B p w w := ⟨Below.refl _ _, fun _ _ _ _ => rfl⟩
theorem WF.trans {E B p : Nat} {a b c : World} (h : WF E B p a b) (k : WF E B p b c) : WF E B p a c :=
  ⟨Below.trans h.b k.b, fun x hx hp hn => by
    have h1 := h.k x hx hp hn
    exact (k.k x (Nat.lt_of_lt_of_le hx h.b.size) hp (fun cs fz => by rw [h1]; exact hn cs fz)).trans h1⟩
theorem WF.of {E B p : Nat} {a b : World} (h : Ext a b) (hB : B ≤ a.heap.size) : WF E B p a b := ⟨Below.mono h hB, fun x hx _ _ => h.block hx⟩
theorem WF.set {E B p : Nat} (w : World) (i : Nat) (v : Value) (hB : B ≤ p) : WF E B p w (w.setCell ⟨p, i, none⟩ v) :=
  ⟨(Below.refl _ _).setCell (p := ⟨p, i, none⟩) hB _, fun x _ hp _ => Below.heap_setCell w _ _ x hp⟩
theorem WF.grown {E B p : Nat} {w w' : World} {v : Value} {l : List UInt8} (ho : OB E B w v l) (hg : w.grownBy w' v.ownBlock) (hB : B ≤ w.heap.size) : WF E B p w w' :=
  ⟨(Below.refl _ _).grown hg hB fun k hk => (ho.own.lt k hk).1, fun x hx _ hn => hg.block x hx fun e => by
    rcases ho.own.2 with ⟨rfl, -⟩ | ⟨g, cap, cur, rfl, _, h2, -⟩
    · simp [Value.ownBlock] at e
    · obtain rfl : x = g := by simpa [Value.ownBlock] using e
      exact hn _ _ h2⟩
theorem Blk.wf {E B p T k : Nat} {w w' : World} {cs : Array Value} (h : Blk w k T cs) (hf : WF E B p w w') (hk : k ≠ p) (hT : T ≠ E) : Blk w' k T cs :=
  (hf.k k h.lt hk (fun c fz e => by
    have h2 : w.heap[k]? = some (.cells cs T (0, 0)) := h
    rw [h2] at e
    injection e with e
    injection e with _ e2
    exact hT e2)).trans h
theorem ob_extQ {Q : Nat → Prop} {E B : Nat} {w w' : World} {v : Value} {l : List UInt8} (h : OB E B w v l) (he : ExtQ Q w w') (hq : ∀ k, v.ownBlock = some k → ¬ Q k) : OB E B w' v l := ownsRow_extQ h.own he hq
theorem own_ne {T E B p : Nat} {w : World} {v : Value} {l : List UInt8} {cs : Array Value} (hb : Blk w p T cs) (ho : OB E B w v l) (e : v.ownBlock = some p) (hT : T ≠ E) : False := by
  rcases ho.own.2 with ⟨rfl, -⟩ | ⟨g, cap, cur, rfl, _, hg, -⟩
  · simp [Value.ownBlock] at e
  · obtain rfl : g = p := by simpa [Value.ownBlock] using e
    have h2 : w.heap[g]? = some (.cells cs T (0, 0)) := hb
    rw [h2] at hg
    injection hg with hg
    injection hg with _ h3
    exact hT h3
end Go.Ox.La
namespace Go.Proofs.YtpmgmiiidfconaaGreatDoor
open Go.RowKit Go.Ox Go.Ox.Gr Go.Ox.Sc Go.Ox.La Go.Shelf
attribute [local irreducible] RE OE OB
abbrev TW : Nat := 78
abbrev TB : Nat := 5
set_option maxRecDepth 100000 in
set_option maxHeartbeats 4000000 in
theorem copyCheck_any (B p : Nat) (l : List UInt8) (w : World) (h : WB TW TB B p w l) :
    Calls Tryz.prog 93 #[.pointer (some ⟨p, 0, none⟩)] w fun e w' => e = .returned (.tuple #[]) ∧ WU TW TB B p w' l ∧ WF TB B p w w' := by
  obtain ⟨hlow, a, v, ha, hb, ho, hne⟩ := h
  obtain ⟨j, hj, hjs⟩ := Option.map_eq_some_iff.1 (show (Tryz.prog.info? 76).map (·.size) = some 2 by kernel_rfl)
  have HLOW := Lib.hid hlow
  have HB := Lib.hid hb
  have HO := Lib.hid ho
  have HNE := Lib.hid hne
  have c0 : w.cell? ⟨p, 0, none⟩ = some a := (hb.cell 0).trans rfl
  have f0 : w.frozen? ⟨p, 0, none⟩ = false := hb.frozen 0
  have hsh : w.shape? p = some (TW, 2) := by
    have h9 : w.heap[p]? = some (.cells #[a, v] TW (0, 0)) := hb
    simp [World.shape?, h9]
  clear hlow hb ho hne
  have hto := Lib.run_to_unsafe (P := Tryz.prog) w ⟨p, 0, none⟩ Tryz.underlying73 Tryz.underlying167 hj (by rw [hjs]; decide) hsh (Nat.zero_lt_succ 1)
  have hfr := Lib.run_from_unsafe (P := Tryz.prog) w ⟨p, 0, none⟩ Tryz.underlying167 Tryz.underlying73 hj hsh (by kernel_rfl)
  have hnq := Lib.run_neq_ptr_same (P := Tryz.prog) w ⟨p, 0, none⟩ Tryz.underlying73 hj
  rcases ha with rfl | rfl
  · skip
    go_enter Tryz.func93, Tryz.ntmps93
    go_wp2
    rw [run_callFunc_extern Tryz.func119 (by kernel_rfl) (by kernel_rfl) (by kernel_rfl) (e := Extern.AbiNoEscape.same) (by kernel_rfl)]
    rw [Lib.run_noEscape]
    simp only [Result.andThen]
    rw [Oper.upon_value]
    go_wp2
    go_end0
    have hq : ExtQ (fun k => k = p) w (w.setCell ⟨p, 0, none⟩ (.pointer (some ⟨p, 0, none⟩))) := ExtQ.setCell (Q := fun k => k = p) (ExtQ.refl _ _) (p := ⟨p, 0, none⟩) rfl _
    exact ⟨rfl, ⟨HLOW.out, v, by simpa using HB.out.set_ 0 (.pointer (some ⟨p, 0, none⟩)), ob_extQ HO.out hq (fun k hk hkp => HNE.out (by rw [hk, hkp])), HNE.out⟩, WF.set w 0 _ HLOW.out⟩
  · skip
    go_enter Tryz.func93, Tryz.ntmps93
    go_wp2
    go_end0
    exact ⟨rfl, ⟨HLOW.out, v, HB.out, HO.out, HNE.out⟩, WF.refl _ _ _ _⟩
theorem strCells_b29 (s : ByteArray) : Lib.strCells s = s.data.toList.map byteV := by
  unfold Lib.strCells byteV n8; rfl
theorem wpList_appL {ops : Array Oper} {rest : List Oper} {o : Oper} {a : Act} {Q : Exit → Act → World → Prop} (hgd : o.guard = none) (w : World) (sl x : Operand)
    (ho : o.op = .call { callee := .builtin .append, args := #[sl, x], argTypes := #[74, 9] })
    (base : Nat) (v : Value) (l : List UInt8) (hs : a.eval sl = v) (hown : OB 5 base w v l) (s : W) (hx : a.eval x = strV s)
    (hb : l.length + s.length ≤ 1000000) (hbase : base ≤ w.heap.size)
    (h : ∀ v' w', OB 5 base w' v' (l ++ s) → w.grownBy w' v.ownBlock → wpList Tryz.prog ops Q rest (a.put o.dst v') w') : wpList Tryz.prog ops Q (o :: rest) a w := by
  obtain ⟨i, hi, hz, hsz, hby⟩ := elemB.info
  have hss : (⟨s.toArray⟩ : ByteArray).size = s.length := by simp [ByteArray.size]
  refine Go.Lib.wpList_append_own_string w hgd sl x 74 9 ho base 5 i Tryz.underlying74 Tryz.underlying9 hi hz hsz hby v _ _ hs hown.own ⟨s.toArray⟩ hx (by unfold maxLen; omega) (by omega) hbase fun v' w' h2 h3 _ => h v' w' ?_ h3
  rw [strCells_b29, hss] at h2
  exact OB.app (by simpa using h2)
set_option maxRecDepth 100000 in
set_option maxHeartbeats 4000000 in
theorem writeString_any (B p : Nat) (l s : List UInt8) (w : World) (h : WB TW TB B p w l) (hl : l.length + s.length ≤ 1000000) (hB : B ≤ w.heap.size) :
    Calls Tryz.prog 60 #[.pointer (some ⟨p, 0, none⟩), strV s] w fun e w' => (∃ v, e = .returned v) ∧ WU TW TB B p w' (l ++ s) ∧ WF TB B p w w' := by
  have HC := Lib.hid (copyCheck_any B p l w h)
  have HL := Lib.hid hl
  have HBW := Lib.hid hB
  clear h hl hB
  go_enter Tryz.func60, Tryz.ntmps60
  go_wp2_with fail
  refine HC.out.mono ?_
  rintro e w1 ⟨rfl, ⟨hlow, v, hb, ho, hne⟩, hx1⟩
  have HO := Lib.hid ho
  have HB := Lib.hid hb
  have HNE := Lib.hid hne
  have HX1 := Lib.hid hx1
  have HLOW := Lib.hid hlow
  have c1 : w1.cell? ⟨p, 1, none⟩ = some v := (hb.cell 1).trans rfl
  clear hlow hb ho hne hx1
  go_wp2_with (at_builtin; refine wpList_appL rfl _ _ _ rfl B _ l rfl HO.out s rfl HL.out (Nat.le_trans HBW.out HX1.out.b.size) ?_)
  intro v2 w2 ho2 hg2
  have hb2 : Blk w2 p TW #[.pointer (some ⟨p, 0, none⟩), v] := (hg2.block p HB.out.lt fun e => HNE.out e.symm).trans HB.out
  have f1 : w2.frozen? ⟨p, 1, none⟩ = false := hb2.frozen 1
  have d1 : w2.cell? ⟨p, 1, none⟩ = some v := (hb2.cell 1).trans rfl
  have HB2 := Lib.hid hb2
  have HX2 := Lib.hid (HX1.out.trans (WF.grown HO.out hg2 (Nat.le_trans HBW.out HX1.out.b.size)))
  obtain ⟨A2, c2, rfl⟩ := ho2.form
  have HO2 := Lib.hid ho2
  clear hb2 ho2
  generalize hn : (l ++ s).length = n at *
  have HN := Lib.hid hn
  clear hn hg2
  go_wp2
  go_ret2
  have hq : ExtQ (fun k => k = p) w2 (w2.setCell ⟨p, 1, none⟩ (.slice A2 n c2)) := ExtQ.setCell (Q := fun k => k = p) (ExtQ.refl _ _) (p := ⟨p, 1, none⟩) rfl _
  have hne : (Value.slice A2 n c2).ownBlock ≠ some p := fun e => own_ne HB2.out HO2.out e (by decide)
  refine ⟨⟨_, rfl⟩, ⟨HLOW.out, _, by simpa using HB2.out.set_ 1 (.slice A2 n c2), ob_extQ HO2.out hq (fun k hk hkp => hne (by rw [hk, hkp])), hne⟩, ?_⟩
  exact HX2.out.trans (WF.set w2 1 _ HLOW.out)
set_option maxRecDepth 100000 in
set_option maxHeartbeats 4000000 in
theorem writeByte_any (B p : Nat) (l : List UInt8) (w : World) (h : WB TW TB B p w l) (hl : l.length ≤ 999999) (hB : B ≤ w.heap.size) :
    Calls Tryz.prog 61 #[.pointer (some ⟨p, 0, none⟩), .int .u8 10] w fun e w' => (∃ v, e = .returned v) ∧ WU TW TB B p w' (l ++ [10]) ∧ WF TB B p w w' := by
  have HC := Lib.hid (copyCheck_any B p l w h)
  have HL := Lib.hid hl
  have HBW := Lib.hid hB
  clear h hl hB
  go_enter Tryz.func61, Tryz.ntmps61
  go_wp2_with fail
  refine HC.out.mono ?_
  rintro e w1 ⟨rfl, ⟨hlow, v, hb, ho, hne⟩, hx1⟩
  have hal : Ext w1 (w1.alloc (.cells #[.int .u8 10] 5)) := (Ext.refl _).alloc _
  have HO := Lib.hid (ho.ext hal)
  have HB := Lib.hid (hb.ext hal)
  have HNE := Lib.hid hne
  have HX1 := Lib.hid (show WF TB B p w (w1.alloc (.cells #[.int .u8 10] 5)) from hx1.trans (WF.of hal (Nat.le_trans HBW.out hx1.b.size)))
  have HLOW := Lib.hid hlow
  have HR := Lib.hid (RB.lit1 w1 5 (.int .u8 10) 10 (by unfold byteV n8; rfl))
  have c1 : w1.cell? ⟨p, 1, none⟩ = some v := (hb.cell 1).trans rfl
  clear hlow hb ho hne hx1 hal
  go_wp2_with (at_builtin; refine wpList_app rfl elemB _ _ _ rfl B _ l.length (l.map byteV) rfl HO.out.own _ 1 ([10].map byteV) rfl HR.out.rd (one_byteV _) (by have := HL.out; omega) (by have := HL.out; unfold maxLen; omega) (Nat.le_trans HBW.out HX1.out.b.size) ?_)
  intro v2 w2 ha
  have ho2 : OB TB B w2 v2 (l ++ [10]) := OB.app ha.own
  have hg2 := ha.grown
  have hb2 : Blk w2 p TW #[.pointer (some ⟨p, 0, none⟩), v] := (hg2.block p HB.out.lt fun e => HNE.out e.symm).trans HB.out
  have f1 : w2.frozen? ⟨p, 1, none⟩ = false := hb2.frozen 1
  have d1 : w2.cell? ⟨p, 1, none⟩ = some v := (hb2.cell 1).trans rfl
  have HB2 := Lib.hid hb2
  have HX2 := Lib.hid (HX1.out.trans (WF.grown HO.out hg2 (Nat.le_trans HBW.out HX1.out.b.size)))
  obtain ⟨A2, c2, rfl⟩ := ho2.form
  have HO2 := Lib.hid ho2
  clear hb2 ho2
  generalize hn : (l ++ [10]).length = n at *
  have HN := Lib.hid hn
  clear hn hg2 ha
  go_wp2
  go_ret
  have hq : ExtQ (fun k => k = p) w2 (w2.setCell ⟨p, 1, none⟩ (.slice A2 n c2)) := ExtQ.setCell (Q := fun k => k = p) (ExtQ.refl _ _) (p := ⟨p, 1, none⟩) rfl _
  have hne : (Value.slice A2 n c2).ownBlock ≠ some p := fun e => own_ne HB2.out HO2.out e (by decide)
  refine ⟨⟨_, rfl⟩, ⟨HLOW.out, _, by simpa using HB2.out.set_ 1 (.slice A2 n c2), ob_extQ HO2.out hq (fun k hk hkp => hne (by rw [hk, hkp])), hne⟩, ?_⟩
  exact HX2.out.trans (WF.set w2 1 _ HLOW.out)
set_option maxRecDepth 100000 in
set_option maxHeartbeats 1000000 in
theorem bLen_any (B p : Nat) (l : List UInt8) (w : World) (h : WB TW TB B p w l) :
    Calls Tryz.prog 30 #[.pointer (some ⟨p, 0, none⟩)] w fun e w' => e = .returned (.int .i64 (l.length : Int)) ∧ w' = w := by
  obtain ⟨hlow, a, v, ha, hb, ho, hne⟩ := h
  obtain ⟨A, c, rfl⟩ := ho.form
  have c1 : w.cell? ⟨p, 1, none⟩ = some (.slice A l.length c) := (hb.cell 1).trans rfl
  clear hlow hb ho hne
  go_enter Tryz.func30, Tryz.ntmps30
  go_wp2
  go_ret
  exact ⟨rfl, rfl⟩
set_option maxRecDepth 100000 in
set_option maxHeartbeats 2000000 in
theorem bString_any (B p : Nat) (l : List UInt8) (w : World) (h : WB TW TB B p w l) (h0 : l ≠ []) :
    Calls Tryz.prog 31 #[.pointer (some ⟨p, 0, none⟩)] w fun e w' => e = .returned (strV l) ∧ Below B w w' := by
  obtain ⟨hlow, a, v, ha, hb, ho, hne⟩ := h
  have hown := ho.own
  have hl0 : l.length ≠ 0 := by simpa using h0
  obtain ⟨g, cap, cur, rfl, hbg, hg, hnc, hcm, hcs, htake⟩ : ∃ g cap cur, v = .slice (some ⟨g, 0, none⟩) l.length cap ∧ B ≤ g ∧ w.heap[g]? = some (.cells cur TB (0, 0)) ∧ l.length ≤ cap ∧ cap ≤ maxLen ∧ cur.size = cap * 1 ∧ cur.toList.take (l.length * 1) = l.map byteV := by
    rcases hown.2 with ⟨_, hz⟩ | ⟨g, cap, cur, hv, r⟩
    · exact absurd hz hl0
    · exact ⟨g, cap, cur, hv, r⟩
  have c1 : w.drew.cell? ⟨p, 1, none⟩ = some (.slice (some ⟨g, 0, none⟩) l.length cap) := (hb.cell 1).trans rfl
  have hSD : (Builtin.unsafeSliceData_ #[74] 120 #[.slice (some ⟨g, 0, none⟩) l.length cap]).run Tryz.prog w.drew = .ok (.pointer (some ⟨g, 0, none⟩)) w.drew :=
    Lib.run_unsafeSliceData_row _ _ _ _ _ _ (by omega)
  have hUS : (Builtin.unsafeString_ #[120, 3] 9 #[.pointer (some ⟨g, 0, none⟩), .int .i64 l.length]).run Tryz.prog w.drew = .ok (.string ⟨l.toArray⟩) (w.drew.freeze ⟨g, 0, none⟩ l.length) := by
    refine Lib.run_unsafeString_row w.drew 120 3 9 TB Tryz.underlying120 (by kernel_rfl) g cur.size (by have hg' : w.drew.heap[g]? = some (.cells cur TB (0, 0)) := hg; simp [World.shape?, hg']) l h0 (by omega) (by unfold maxLen at hcm; omega) ?_
    intro j x hx
    have := hown.cells (g := g) rfl j (.int .u8 x.toNat) (by simp [byteV, n8, hx])
    exact this
  have HBG := Lib.hid hbg
  clear hlow hb ho hne hown hl0 hbg hg hnc hcm hcs htake ha h0
  go_enter Tryz.func31, Tryz.ntmps31
  go_wp2
  have mixed : Tryz.prog.follows Departure.mixedOrders = true := by kernel_rfl
  go_region_o
  all_goals (go_wp2; go_ret; exact ⟨rfl, Lib.below_freeze (Below.drew (Below.refl B w)) (p := ⟨g, 0, none⟩) HBG.out _⟩)
end Go.Proofs.YtpmgmiiidfconaaGreatDoor
set_option linter.unusedVariables false
set_option linter.unusedSimpArgs false
namespace Go.Proofs.YtpmgmiiidfconaaGreatDoor
open Go.RowKit Go.Ox Go.Ox.Gr Go.Ox.Sc Go.Ox.La Go.Shelf
attribute [local irreducible] RE OE OB GlT
set_option maxRecDepth 100000 in
set_option maxHeartbeats 4000000 in
theorem wline_any (B p : Nat) (l : List UInt8) (v : Value) (L : List W) (w : World) (h : WB TW TB B p w l) (hv : RE w v L) (hL : L.length ≤ 1000000) (hB : B ≤ w.heap.size) (hl : l.length + (joinL L).length ≤ 999998) :
    Calls Tryz.prog 25 #[.pointer (some ⟨p, 0, none⟩), v] w fun e w' => e = .returned (.tuple #[]) ∧ WB TW TB B p w' (l ++ (joinL L ++ [10])) ∧ WF TB B p w w' := by
  have HC := Lib.hid (fun W (hv : RE W v L) => join_any v L W hv hL (by omega))
  have HWS := Lib.hid (fun W h hB => writeString_any B p l (joinL L) W h (by omega) hB)
  have HWB := Lib.hid (fun W h hB => writeByte_any B p (l ++ joinL L) W h (by simp; omega) hB)
  have HW := Lib.hid h
  have HV := Lib.hid hv
  have HBW := Lib.hid hB
  obtain ⟨A, c, rfl⟩ := hv.form
  generalize joinL L = J at *
  clear h hv hB hl hL
  go_enter Tryz.func25, Tryz.ntmps25
  go_wp2
  refine wp_region_tailY 5 [] [] Ext Ext (fun _ => True) (by kernel_rfl) (by kernel_rfl) (by kernel_rfl) (by kernel_rfl) (by kernel_rfl) (by kernel_rfl) (by kernel_rfl) (by rfl) (by rfl) (by kernel_rfl) (by kernel_rfl) (by kernel_rfl) (fun _ _ _ x y => x.trans y) Ext.refl (fun _ _ x => x) (Ext.refl _).drew (fun _ _ x _ => x) trivial ?_
  refine ya ?_
  refine yc1 (strV J) (fun w' hR => HC.out w' (RE.ext HV.out hR)) ?_
  refine ya ?_
  refine wpY_done ?_
  intro w2 hx2 hS
  iterate 5 (rintro _ rfl)
  dsimp only [FinV]
  go_simp
  have hx2 : Ext w w2 := hx2
  have HX2 := Lib.hid hx2
  have HW2 := Lib.hid (HW.out.ext hx2)
  clear hx2
  simp only [thenTail, List.drop_succ_cons, List.drop_zero]
  go_wp2_with fail
  refine (HWS.out _ HW2.out (Nat.le_trans HBW.out HX2.out.size)).mono ?_
  rintro e w3 ⟨⟨v3, rfl⟩, hw3, hb3⟩
  have HW3 := Lib.hid hw3.wb
  have HB3 := Lib.hid hb3
  clear hw3 hb3
  go_wp2_with fail
  refine (HWB.out _ HW3.out (Nat.le_trans HBW.out (Nat.le_trans HX2.out.size HB3.out.b.size))).mono ?_
  rintro e w4 ⟨⟨v4, rfl⟩, hw4, hb4⟩
  have HW4 := Lib.hid hw4.wb
  have HB4 := Lib.hid (((WF.of HX2.out HBW.out).trans HB3.out).trans hb4)
  clear hw4 hb4
  go_wp2
  go_end0
  exact ⟨rfl, by rw [← List.append_assoc]; exact HW4.out, HB4.out⟩
end Go.Proofs.YtpmgmiiidfconaaGreatDoor
