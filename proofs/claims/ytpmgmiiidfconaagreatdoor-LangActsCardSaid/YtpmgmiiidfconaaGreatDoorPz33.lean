/-
  LaPNode, packed: what the claim needs of them.
-/
import Derived.Test.YtpmgmiiidfconaaGreatDoorPz32
set_option linter.unusedVariables false
set_option linter.unusedSimpArgs false
namespace Go.Proofs.YtpmgmiiidfconaaGreatDoor
open Go.RowKit Go.Ox Go.Ox.Gr Go.Ox.Sc Go.Ox.La Go.Shelf
/-- nodes while they are read -/
abbrev NdsO (d p B : Nat) (w : World) (nv : Value) (ns : List Nd) : Prop := OS (fun k => k < B) 57 6 B (NdQ (NodesR d)) w nv ns
/-- a row to which zeros were laid -/
def ZAp (E B k n N : Nat) (xs zs : List Value) (g0 : Option Nat) (v : Value) (w : World) : Prop := ∃ g cap, v = .slice (some ⟨g, 0, none⟩) (n + 1) cap ∧ (g0 = some g ∨ N ≤ g) ∧ w.ownsRow B E k v (n + 1) (xs ++ zs)
theorem ZAp.ext {E B k n N : Nat} {xs zs : List Value} {g0 : Option Nat} {v : Value} {w w' : World} (h : ZAp E B k n N xs zs g0 v w) (he : Ext w w') : ZAp E B k n N xs zs g0 v w' := by
  obtain ⟨g, cap, h1, h2, h3⟩ := h
  exact ⟨g, cap, h1, h2, ownsRow_ext h3 he⟩
theorem ZAp.of {E B k n N : Nat} {xs zs : List Value} {v v' : Value} {w w' : World} (h : Appended w w' B E k v v' n 1 xs zs) (hN : N ≤ w.heap.size) (hk : 0 < k) (hz : zs.length = k) : ZAp E B k n N xs zs v.ownBlock v' w' := by
  have ho := h.own
  have ha := h.at_
  obtain ⟨h1, h2⟩ := ho
  rcases h2 with ⟨-, h2⟩ | ⟨g, cap, cur, rfl, h3, h4, h5, h6, h7, h8⟩
  · omega
  · refine ⟨g, cap, rfl, ?_, h1, .inr ⟨g, cap, cur, rfl, h3, h4, h5, h6, h7, h8⟩⟩
    rcases ha with ha | ha
    · exact .inl ha.symm
    · have : g = w.heap.size := by simpa [Value.ownBlock] using ha
      exact .inr (by omega)
/-- the row's block, the zeros' cells -/
theorem own_cells {w : World} {B E n cap g : Nat} {xs zs : List Value} (h : w.ownsRow B E 6 (.slice (some ⟨g, 0, none⟩) (n + 1) cap) (n + 1) (xs ++ zs)) (hx : xs.length = n * 6) :
    ∃ cur, Blk w g E cur ∧ cur.size = cap * 6 ∧ n + 1 ≤ cap ∧ cap ≤ maxLen ∧ B ≤ g ∧ cur.toList.take (n * 6) = xs ∧ ∀ j u, zs[j]? = some u → cur[n * 6 + j]? = some u := by
  obtain ⟨h1, h2⟩ := h
  rcases h2 with ⟨h2, -⟩ | ⟨g', cap', cur, hv, h3, h4, h5, h6, h7, h8⟩
  · cases h2
  · injection hv with hg _ hc
    injection hg with hg
    injection hg with hg _ _
    subst hg; subst hc
    refine ⟨cur, h4, h7, h5, h6, h3, ?_, fun j u hj => ?_⟩
    · have h9 := congrArg (List.take (n * 6)) h8
      rw [List.take_take, Nat.min_eq_left (by omega)] at h9
      rw [h9, List.take_append_of_le_length (by omega), ← hx, List.take_length]
    · have h9 := congrArg (fun l => l[n * 6 + j]?) h8
      have hlt : j < zs.length := (List.getElem?_eq_some_iff.1 hj).1
      rw [List.length_append, hx] at h1
      rw [List.getElem?_take_of_lt (by omega), List.getElem?_append_right (by omega), hx, show n * 6 + j - n * 6 = j by omega, hj] at h9
      rw [← h9, Array.getElem?_toList]
theorem own_put {w : World} {B E n cap g : Nat} {xs r : List Value} {cur : Array Value} (hb : Blk w g E cur) (hs : cur.size = cap * 6) (hn : n + 1 ≤ cap) (hm : cap ≤ maxLen) (hB : B ≤ g) (ht : cur.toList.take (n * 6) = xs) (hr : r.length = 6) :
    (w.setCells g (n * 6) r).ownsRow B E 6 (.slice (some ⟨g, 0, none⟩) (n + 1) cap) (n + 1) (xs ++ r) := by
  have hx : xs.length = n * 6 := by rw [← ht, List.length_take, Array.length_toList]; omega
  refine ⟨by rw [List.length_append]; omega, .inr ⟨g, cap, setL cur (n * 6) r, rfl, hB, Blk.setCells (w := w) r (n * 6) hb, hn, hm, by rw [setL_size]; exact hs, ?_⟩⟩
  exact Has.take_ (Has.app (Has.out (Has.of_take ht) (.inl (by omega))) (setL_in r cur (n * 6) (by omega)) (by omega)) (by rw [List.length_append]; omega) (by rw [setL_size]; omega)
/-- one more was laid behind, by a store -/
theorem os_put {β : Type} {K0 : Nat → Prop} {E k base : Nat} {Q : World → List Value → β → Prop} {w0 wz : World} {v v' : Value} {ls : List β} {rows : List (List Value)} {r : List Value} {y : β} (h2 : rows.length = ls.length)
    (h3 : ∀ (i : Nat) (r : List Value) (x : β), rows[i]? = some r → ls[i]? = some x → r.length = k ∧ ∀ W, ExtQ (MayK K0 v w0) w0 W → Q W r x)
    (ho : wz.ownsRow base E k v' (ls.length + 1) (rows.flatten ++ r)) (hx : ExtQ (MayK K0 v w0) w0 wz) (hv : ∀ g, v'.ownBlock = some g → v.ownBlock = some g ∨ w0.heap.size ≤ g) (hrk : r.length = k) (hq : ∀ W, ExtQ (MayK K0 v' wz) wz W → Q W r y) : OS K0 E k base Q wz v' (ls ++ [y]) := by
  refine ⟨rows ++ [r], ?_, by simp [h2], fun i r' x' hr' hx' => ?_⟩
  · rw [List.length_append, List.flatten_append, List.flatten_singleton, h2]
    exact ho
  · have step : ∀ W, ExtQ (MayK K0 v' wz) wz W → ExtQ (MayK K0 v w0) w0 W := fun W hW => by
      refine hx.trans (hW.mono fun j hj => ?_)
      rcases hj with hj | hj | hj
      · exact .inl hj
      · exact (hv j hj).elim (fun e => .inr (.inl e)) (fun e => .inr (.inr e))
      · exact .inr (.inr (Nat.le_trans hx.size hj))
    rcases Nat.lt_or_ge i rows.length with hi | hi
    · rw [List.getElem?_append_left hi] at hr'
      rw [List.getElem?_append_left (by omega)] at hx'
      exact ⟨(h3 i r' x' hr' hx').1, fun W hW => (h3 i r' x' hr' hx').2 W (step W hW)⟩
    · have hi2 : i = rows.length := by
        rcases Nat.lt_or_ge i (rows.length + 1) with q | q
        · omega
        · rw [List.getElem?_eq_none (by simp; omega)] at hr'; cases hr'
      subst hi2
      rw [List.getElem?_append_right (Nat.le_refl _), Nat.sub_self] at hr'
      rw [h2, List.getElem?_append_right (Nat.le_refl _), Nat.sub_self] at hx'
      simp at hr' hx'
      subst hr'; subst hx'
      exact ⟨hrk, fun W hW => hq W hW⟩
/-- what may change while a body is read -/
def MayI (B gn : Nat) (bv : Value) (w : World) (k : Nat) : Prop := k < B ∨ k = gn ∨ bv.ownBlock = some k ∨ w.heap.size ≤ k
/-- nodes while the body of the last one is read -/
structure InO (p B gn : Nat) (w : World) (nv bv : Value) (ns : List Nd) (n0 : Nd) (bs : List Nd) : Prop where
  lt : p < B ∧ B ≤ gn
  v : ∃ cap, nv = .slice (some ⟨gn, 0, none⟩) (ns.length + 1) cap ∧ ns.length + 1 ≤ cap ∧ cap ≤ maxLen ∧ ∃ (cur : Array Value) (rows : List (List Value)) (u : Value), Blk w gn 57 cur ∧ cur.size = cap * 6 ∧ cur.toList.take (ns.length * 6) = rows.flatten ∧ Has cur (ns.length * 6) [.int .i64 n0.op, u, .int .i64 n0.kind, .int .i64 n0.fa, .int .i64 n0.a, bv] ∧ rows.length = ns.length ∧
    (∀ (i : Nat) (r : List Value) (x : Nd), rows[i]? = some r → ns[i]? = some x → r.length = 6 ∧ ∀ W, ExtQ (MayI B gn bv w) w W → NdQ (NodesR 1) W r x) ∧ ∀ W, ExtQ (MayI B gn bv w) w W → RE W u n0.ins
  b : OS (fun k => k < B ∨ k = gn) 57 6 B (NdQ (NodesR 0)) w bv bs
  ne : bv.ownBlock ≠ some gn
theorem InO.off {p B gn : Nat} {w : World} {nv bv : Value} {ns bs : List Nd} {n0 : Nd} (h : InO p B gn w nv bv ns n0 bs) : ∀ j, bv.ownBlock = some j → ¬ (j < B ∨ j = gn) := fun j hj e => by
  rcases e with e | e
  · have := (h.b.lt hj).1; have := h.lt; omega
  · exact h.ne (by rw [hj, e])
theorem InO.extQ {p B gn : Nat} {w w' : World} {nv bv : Value} {ns bs : List Nd} {n0 : Nd} {Q : Nat → Prop} (h : InO p B gn w nv bv ns n0 bs) (he : ExtQ Q w w') (hq : ∀ j, Q j → j < B ∨ w.heap.size ≤ j) : InO p B gn w' nv bv ns n0 bs := by
  have hoff := h.off
  obtain ⟨hl, ⟨cap, h1, h2, h3, cur, rows, u, h4, h5, h6, h7, h8, h9, h10⟩, hb, hn⟩ := h
  have step : ∀ W, ExtQ (MayI B gn bv w') w' W → ExtQ (MayI B gn bv w) w W := fun W hW => (he.mono fun j hj => (hq j hj).elim .inl (fun e => .inr (.inr (.inr e)))).trans (hW.mono fun j hj => by
    rcases hj with hj | hj | hj | hj
    · exact .inl hj
    · exact .inr (.inl hj)
    · exact .inr (.inr (.inl hj))
    · exact .inr (.inr (.inr (Nat.le_trans he.size hj))))
  refine ⟨hl, ⟨cap, h1, h2, h3, cur, rows, u, h4.extQ he (fun e => ?_), h5, h6, h7, h8, fun i r x hr hx => ⟨(h9 i r x hr hx).1, fun W hW => (h9 i r x hr hx).2 W (step W hW)⟩, fun W hW => h10 W (step W hW)⟩, hb.extQ he (fun j hj => (hq j hj).imp_left .inl) hoff, hn⟩
  have := h4.lt
  rcases hq _ e with e | e <;> omega
/-- the body was read -/
theorem InO.done {p B gn : Nat} {w : World} {nv bv : Value} {ns bs : List Nd} {n0 : Nd} (h : InO p B gn w nv bv ns n0 bs) : ∀ W, ExtQ (fun k => k < B ∨ w.heap.size ≤ k) w W → NodesR 2 W nv (ns ++ [.mk n0.op n0.ins n0.kind n0.fa n0.a bs]) := fun W hW => by
  have h' := h.extQ hW (fun j hj => hj)
  obtain ⟨hl, ⟨cap, h1, h2, h3, cur, rows, u, h4, h5, h6, h7, h8, h9, h10⟩, hb, hn⟩ := h'
  refine NodesR.of_rs ⟨rows ++ [[.int .i64 n0.op, u, .int .i64 n0.kind, .int .i64 n0.fa, .int .i64 n0.a, bv]], ?_, by simp [h8], fun i r x hr hx => ?_⟩
  · have hc9 : cur.toList.length = cur.size := by simp
    have hx : rows.flatten.length = ns.length * 6 := by rw [← h6, List.length_take, hc9]; omega
    have ho : W.ownsRow B 57 6 nv (ns.length + 1) (rows.flatten ++ [.int .i64 n0.op, u, .int .i64 n0.kind, .int .i64 n0.fa, .int .i64 n0.a, bv]) :=
      ⟨by rw [List.length_append, hx]; simp; omega, .inr ⟨gn, cap, cur, h1, hl.2, h4, h2, h3, h5, Has.take_ (Has.app (Has.of_take h6) h7 (by omega)) (by rw [List.length_append, hx]; simp; omega) (by omega)⟩⟩
    have hrd := Rd.of_own ho
    rw [List.length_append, List.flatten_append, List.flatten_singleton, h8]
    exact hrd
  · rcases Nat.lt_or_ge i rows.length with hi | hi
    · rw [List.getElem?_append_left hi] at hr
      rw [List.getElem?_append_left (by omega)] at hx
      exact ⟨(h9 i r x hr hx).1, (h9 i r x hr hx).2 W (ExtQ.refl _ _)⟩
    · have hi2 : i = rows.length := by
        rcases Nat.lt_or_ge i (rows.length + 1) with q | q
        · omega
        · rw [List.getElem?_eq_none (by simp; omega)] at hr; cases hr
      subst hi2
      rw [List.getElem?_append_right (Nat.le_refl _), Nat.sub_self] at hr
      rw [h8, List.getElem?_append_right (Nat.le_refl _), Nat.sub_self] at hx
      simp at hr hx
      subst hr; subst hx
      exact ⟨rfl, u, bv, rfl, h10 W (ExtQ.refl _ _), NodesR.of_rs hb.rs⟩
abbrev ndZ : List Value := [.int .i64 0, .slice none 0 0, .int .i64 0, .int .i64 0, .int .i64 0, .slice none 0 0]
theorem ndZ_one : ∀ u ∈ ndZ, u.oneCell' = true := by
  intro u hu
  simp at hu
  rcases hu with rfl | rfl | rfl | rfl <;> rfl
attribute [local irreducible] RE OE wnB named1 Go.Ox.La.actL RP OP EpR InsR nameL
set_option maxRecDepth 100000 in
set_option maxHeartbeats 8000000 in
theorem pnode_any (w0 : World) (p q o B : Nat) (x : W) (r : List W) (ns : List Nd) (k0 k1 k2 k3 : Int) (nv iv av : Value) (out : Int) (w : World) (h : WsR 60 w0 w q (nameL ns.length false :: [61] :: x :: r) false) (hq : q < w.heap.size)
    (hb : Blk w p 87 (paCs k0 k1 k2 k3 nv out iv av 1)) (ho : NdsO 1 p B w0 nv ns) (hpB : p < B) (hB0 : B ≤ w0.heap.size) (hw : ∀ y ∈ r, y.length ≤ 1000000) (hl : r.length ≤ 1000000) (hnl : ns.length ≤ 1000)
    (ht : Tab w0) (h1 : OpsT w0) (h2 : FnsT w0) (ho1 : 1 ≤ o) (ho12 : o < 12) (hx : opsAt o = x) (hne : x ≠ []) (hb9 : ∀ j, j < o → opsAt j ≠ x) (hm : (nodeP o r ns.length false).2 = false → mayB (nodeP o r ns.length false).1 false = true) :
    Calls Tryz.prog 68 #[.pointer (some ⟨p, 0, none⟩), .pointer (some ⟨q, 0, none⟩)] w fun e w' => e = .returned (.bool (!(nodeP o r ns.length false).2)) ∧ ∃ nv', Blk w' p 87 (paCs k0 k1 k2 k3 nv' out iv av (if o = 9 then 2 else 1)) ∧ NdsO 1 p B w' nv' (ns ++ [(nodeP o r ns.length false).1]) ∧ (∃ gn, InO p B gn w' nv' (.slice none 0 0) ns (nodeP o r ns.length false).1 []) ∧ ExtQ (fun k => k = p ∨ B ≤ k) w w' := by
  have HWS := Lib.hid h
  have HB := Lib.hid hb
  have HO := Lib.hid ho
  have HSZ := Lib.hid (show p < B ∧ B ≤ w0.heap.size ∧ w0.heap.size ≤ q ∧ q < w.heap.size ∧ w0.heap.size ≤ w.heap.size from ⟨hpB, hB0, h.low, hq, h.x.size⟩)
  have HC := Lib.hid (fun w h hq => wnode_any w0 q o x r ns.length false w h hq hw hl (by omega) ht h1 h2 ho1 ho12 hx hne hb9 hm)
  have HNL := Lib.hid hnl
  have HOO := Lib.hid (And.intro ho1 ho12)
  obtain ⟨ins, kd, fa, a, bad, hN⟩ : ∃ ins kd fa a bad, nodeP o r ns.length false = (.mk o ins kd fa a [], bad) := ⟨_, _, _, _, _, rfl⟩
  rw [hN]
  dsimp only
  clear h hb hq ho hpB hB0 hw hl ht h1 h2 hx hne hb9 hm hnl
  obtain ⟨n, hn⟩ : ∃ n, n = ns.length := ⟨_, rfl⟩
  obtain ⟨An, cn, hnv⟩ := HO.out.form
  rw [← hn] at HC HWS hnv HNL hN
  have HNN := Lib.hid hN
  subst hnv
  have HN := Lib.hid hn
  clear hn hN
  have z4 := HB.out.cell 4
  go_enter Tryz.func68, Tryz.ntmps68
  go_wp2_with fail
  refine (HC.out _ HWS.out HSZ.out.2.2.2.1).mono ?_
  rintro e w1 ⟨⟨u, rfl, hou⟩, hq1⟩
  rw [HNN.out] at hou ⊢
  rw [show ((.mk o ins kd fa a [], bad) : Nd × Bool).1.kind = kd from rfl, show ((.mk o ins kd fa a [], bad) : Nd × Bool).1.fa = fa from rfl, show ((.mk o ins kd fa a [], bad) : Nd × Bool).1.a = a from rfl]
  dsimp only at hou ⊢
  have hou : OE 3 w.heap.size w1 u ins := hou
  have HQ1 := Lib.hid hq1
  have HOU := Lib.hid hou
  obtain ⟨Au, cu, rfl⟩ := hou.re.form
  have HB1 := Lib.hid (HB.out.extQ hq1 (fun e => by have e : p = q := e; have := HSZ.out; omega))
  clear hou hq1 z4
  have hb0 := Bx6.new w1 57 (.int .i64 0) (.slice none 0 0) (.int .i64 0) (.int .i64 0) (.int .i64 0) (.slice none 0 0)
  have f0 : (w1.alloc (ndCs 0 0 0 0 (.slice none 0 0) (.slice none 0 0))).frozen? ⟨w1.heap.size, 0, none⟩ = false := hb0.b.frozen 0
  have f1 : (w1.alloc (ndCs 0 0 0 0 (.slice none 0 0) (.slice none 0 0))).frozen? ⟨w1.heap.size, 1, none⟩ = false := hb0.b.frozen 1
  have f2 : (w1.alloc (ndCs 0 0 0 0 (.slice none 0 0) (.slice none 0 0))).frozen? ⟨w1.heap.size, 2, none⟩ = false := hb0.b.frozen 2
  have f3 : (w1.alloc (ndCs 0 0 0 0 (.slice none 0 0) (.slice none 0 0))).frozen? ⟨w1.heap.size, 3, none⟩ = false := hb0.b.frozen 3
  have f4 : (w1.alloc (ndCs 0 0 0 0 (.slice none 0 0) (.slice none 0 0))).frozen? ⟨w1.heap.size, 4, none⟩ = false := hb0.b.frozen 4
  have f5 : (w1.alloc (ndCs 0 0 0 0 (.slice none 0 0) (.slice none 0 0))).frozen? ⟨w1.heap.size, 5, none⟩ = false := hb0.b.frozen 5
  clear hb0
  go_upto_region 2 with fail
  clear f0 f1 f2 f3 f4 f5
  have HQ3 := Lib.hid (show Ext w1 (w1.alloc (ndCs o kd fa a (.slice Au ins.length cu) (.slice none 0 0))) from (Ext.refl w1).alloc _)
  have HB6 := Lib.hid (Bx6.new w1 57 (.int .i64 o) (.slice Au ins.length cu) (.int .i64 kd) (.int .i64 fa) (.int .i64 a) (.slice none 0 0))
  obtain ⟨b6, hb6⟩ : ∃ b6, b6 = w1.heap.size := ⟨_, rfl⟩
  have HB6L := Lib.hid (show w.heap.size ≤ b6 from by rw [hb6]; exact HQ1.out.size)
  rw [← hb6] at HB6 ⊢
  clear hb6
  trace_state
  generalize w1.alloc (ndCs o kd fa a (.slice Au ins.length cu) (.slice none 0 0)) = w3 at *
  have HB3 := Lib.hid (HB1.out.ext HQ3.out)
  have HOU3 := Lib.hid (HOU.out.ext HQ3.out)
  have HBV := Lib.hid (show ∀ j, (Value.slice An n cn).ownBlock = some j → j ≠ p ∧ j < w0.heap.size ∧ B ≤ j from fun j hj => by
    have h2 := HO.out.lt hj
    have h3 := HSZ.out
    exact ⟨by omega, h2.2, h2.1⟩)
  have HPB := Lib.hid (show ∀ w', ExtQ (fun k => (Value.slice An n cn).ownBlock = some k) w3 w' → Blk w' p 87 (paCs k0 k1 k2 k3 (.slice An n cn) out iv av 1) from fun w' hR => HB3.out.extQ hR (fun e => (HBV.out _ e).1 rfl))
  have HBX := Lib.hid (show ∀ w', ExtQ (fun k => (Value.slice An n cn).ownBlock = some k) w3 w' → Bx6 w' b6 57 (.int .i64 o) (.slice Au ins.length cu) (.int .i64 kd) (.int .i64 fa) (.int .i64 a) (.slice none 0 0) from fun w' hR => ⟨HB6.out.b.extQ hR (fun e => by have h1 := HBV.out _ e; have h2 := HSZ.out; have h3 := HB6L.out; omega)⟩)
  have z4 := HB3.out.cell 4
  obtain ⟨c0, c1, c2, c3, c4, c5⟩ := HB6.out.at_
  have HX0 := Lib.hid (show Ext w0 w3 from (HWS.out.x.andQ HQ1.out (fun k hk => by have hk : k = q := hk; have := HSZ.out; omega)).trans HQ3.out)
  obtain ⟨rows, hr1, hr2, hr3⟩ := HO.out.ex
  have HR1 := Lib.hid (show w3.ownsRow B 57 6 (.slice An n cn) n rows.flatten from by
    have h1 := ownsRow_ext hr1 HX0.out
    rw [hr2, ← HN.out] at h1
    exact h1)
  have HR3 := Lib.hid hr3
  have HR2 := Lib.hid hr2
  clear hr1 hr2 hr3
  generalize hxs : rows.flatten = xs at *
  have HXS := Lib.hid hxs
  clear hxs
  go_cut [] (fun wx => ∃ nv', Blk wx p 87 (paCs k0 k1 k2 k3 nv' out iv av 1) ∧ NdsO 1 p B wx nv' (ns ++ [.mk o ins kd fa a []]) ∧ (∃ gn, InO p B gn wx nv' (.slice none 0 0) ns (.mk o ins kd fa a []) []) ∧ Bx6 wx b6 57 (.int .i64 o) (.slice Au ins.length cu) (.int .i64 kd) (.int .i64 fa) (.int .i64 a) (.slice none 0 0) ∧ ExtQ (fun k => k = p ∨ B ≤ k) w wx)
  case first =>
    refine wp_region_anyZ 10 [28] [27] Ext (ExtQ (fun k => (Value.slice An n cn).ownBlock = some k)) (fun w' => Ext w3 w') (by kernel_rfl) (by kernel_rfl) (by kernel_rfl) (by kernel_rfl) (by kernel_rfl) (by rfl) (by rfl) (by kernel_rfl) (by kernel_rfl) (by kernel_rfl) (fun _ _ _ x y => x.trans y) (ExtQ.refl _) (fun _ _ x => ExtQ.of x) Ext.refl (Ext.refl _).drew (fun _ _ x y => x.trans y) (Ext.refl _) ?_
    repeat (first | (refine wpZ_move0 rfl rfl (fun _ => (by first | exact runs0 | exact runs1 rfl)) Ext.refl rfl rfl (fun _ => rfl) ?_; apply Exists.intro; refine ⟨?_, ?_⟩; · (go_simp; rfl)) | (refine wpZ_val rfl rfl (fun _ => (by first | exact runs0 | exact runs1 rfl)) Ext.refl rfl ?_; apply Exists.intro; refine ⟨?_, ?_⟩; · (intro c a w' hR; intro h1; (first | (have e1 : _ = _ := h1) | skip); intro h2; (first | (have e2 : _ = _ := h2) | skip); go_simp; rfl)) | (refine wpZ_val rfl rfl (fun _ => (by first | exact runs0 | exact runs1 rfl)) Ext.refl rfl ?_; apply Exists.intro; refine ⟨?_, ?_⟩; · (intro c a w' hR; intro h1; (first | (have e1 : _ = _ := h1) | skip); go_simp; rfl)) | (refine wpZ_val rfl rfl (fun _ => (by first | exact runs0 | exact runs1 rfl)) Ext.refl rfl ?_; apply Exists.intro; refine ⟨?_, ?_⟩; · (intro c a w' hR; go_simp; rfl)) | (refine wpZ_val rfl rfl (fun _ => (by first | exact runs0 | exact runs1 rfl)) Ext.refl rfl ?_; apply Exists.intro; refine ⟨?_, ?_⟩; · (intro c a w' hR; intro h1; (first | (have e1 : _ = _ := h1) | skip); intro h2; (first | (have e2 : _ = _ := h2) | skip); intro h3; (first | (have e3 : _ = _ := h3) | skip); go_simp; rfl)))
    refine wpZ_val rfl rfl (fun _ => (by first | exact runs0 | exact runs1 rfl)) Ext.refl rfl ?_; apply Exists.intro; refine ⟨?_, ?_⟩
    · intro c a w' hR h1
      have e1 : _ = _ := h1
      have hl0 := (HPB.out _ hR).cell 4
      go_simp
      rfl
    refine wpZ_val rfl rfl (fun _ => (by first | exact runs0 | exact runs1 rfl)) Ext.refl rfl ?_; apply Exists.intro; refine ⟨?_, ?_⟩
    · intro c a w' hR h1
      have e1 : _ = _ := h1
      have hl0 := (HBX.out _ hR).b.cell 0
      have hl1 := (HBX.out _ hR).b.cell 1
      have hl2 := (HBX.out _ hR).b.cell 2
      have hl3 := (HBX.out _ hR).b.cell 3
      have hl4 := (HBX.out _ hR).b.cell 4
      have hl5 := (HBX.out _ hR).b.cell 5
      go_simp
      rfl
    repeat (first | (refine wpZ_move0 rfl rfl (fun _ => (by first | exact runs0 | exact runs1 rfl)) Ext.refl rfl rfl (fun _ => rfl) ?_; apply Exists.intro; refine ⟨?_, ?_⟩; · (go_simp; rfl)) | (refine wpZ_val rfl rfl (fun _ => (by first | exact runs0 | exact runs1 rfl)) Ext.refl rfl ?_; apply Exists.intro; refine ⟨?_, ?_⟩; · (intro c a w' hR; intro h1; (first | (have e1 : _ = _ := h1) | skip); intro h2; (first | (have e2 : _ = _ := h2) | skip); go_simp; rfl)) | (refine wpZ_val rfl rfl (fun _ => (by first | exact runs0 | exact runs1 rfl)) Ext.refl rfl ?_; apply Exists.intro; refine ⟨?_, ?_⟩; · (intro c a w' hR; intro h1; (first | (have e1 : _ = _ := h1) | skip); go_simp; rfl)) | (refine wpZ_val rfl rfl (fun _ => (by first | exact runs0 | exact runs1 rfl)) Ext.refl rfl ?_; apply Exists.intro; refine ⟨?_, ?_⟩; · (intro c a w' hR; go_simp; rfl)) | (refine wpZ_val rfl rfl (fun _ => (by first | exact runs0 | exact runs1 rfl)) Ext.refl rfl ?_; apply Exists.intro; refine ⟨?_, ?_⟩; · (intro c a w' hR; intro h1; (first | (have e1 : _ = _ := h1) | skip); intro h2; (first | (have e2 : _ = _ := h2) | skip); intro h3; (first | (have e3 : _ = _ := h3) | skip); go_simp; rfl)))
    refine wpZ_callA (fun c v w => c ≤ 0 → Rd w 6 v 1 ndZ) rfl rfl (by first | exact runs0 | exact runs1 rfl) rfl (keptC_0 fun _ _ _ h k => Rd.ext h k) ?_ ?_
    · intro a w' hR hS  K hK
      go_simp
      exact hK _ _ ((Ext.refl _).alloc _) fun _ => Rd.lit (size := 6) w' #[.int .i64 0, .slice none 0 0, .int .i64 0, .int .i64 0, .int .i64 0, .slice none 0 0] 57 1 rfl (by unfold maxLen; omega)
    refine wpZ_eff (fun c v w => 1 ≤ c ∧ (c ≤ 1 → ZAp 57 B 6 n w3.heap.size xs ndZ (Value.slice An n cn).ownBlock v w)) (fun _ => True) rfl (by first | exact runs0 | exact runs1 rfl) rfl (keptC_at fun _ _ _ h k => ZAp.ext h k) (fun _ _ _ _ => trivial) ?_ ?_
    · intro a w' hR hS h1 h2 K hK
      have e1 : _ = _ := h1
      obtain ⟨y9, ey9, fy9⟩ : ∃ x, a.tmps.getD 27 undef = x ∧ (fun v w => 0 ≤ 0 → Rd w 6 v 1 ndZ) x w' := ⟨_, rfl, h2⟩
      have hr9 := fy9 (Nat.le_refl _)
      have e1 : _ = _ := h1
      have hS : Ext w3 w' := hS
      refine wp_app elemNd w' (.tmp 24) (.tmp 27) rfl B (.slice An n cn) n xs e1 (ownsRow_ext HR1.out hS) _ 1 ndZ ey9 hr9 ndZ_one (by have := HNL.out; omega) (by have := HNL.out; unfold maxLen; omega) (by have h1 := HSZ.out; have h2 := HX0.out.size; have h3 := hS.size; omega) ?_
      intro v' w4 ha
      exact hK _ _ (ExtQ.grown ha.grown (fun k hk => hk)) trivial ⟨Nat.le_refl _, fun _ => ZAp.of ha hS.size (by omega) rfl⟩
    refine wpZ_done ?_
    intro w6 hx6 hS6
    iterate 8 (rintro _ rfl)
    iterate 1 (intro _ hz; clear hz)
    rintro v28 h28
    dsimp only [FinV]
    go_simp
    have hx6 : ExtQ (fun k => (Value.slice An n cn).ownBlock = some k) w3 w6 := hx6
    obtain ⟨g, cap, rfl, hg, how⟩ := h28.2 (Nat.le_refl _)
    have hxl : xs.length = n * 6 := HR1.out.1
    obtain ⟨cur, hgb, hcs, hcn, hcm, hBg, hct, hcz⟩ := own_cells how hxl
    have hgp : g ≠ p := by have := HSZ.out; omega
    have hpg : p ≠ g := fun e => hgp e.symm
    have hpb := HPB.out _ hx6
    have y4 : w6.cell? ⟨p, 4, none⟩ = some (.slice An n cn) := hpb.cell 4
    have f4 : w6.frozen? ⟨p, 4, none⟩ = false := hpb.frozen 4
    have z0 : w6.cell? ⟨g, n * 6, none⟩ = some (.int .i64 0) := (hgb.cell _).trans (hcz 0 _ rfl)
    have z1 : w6.cell? ⟨g, n * 6 + 1, none⟩ = some (.slice none 0 0) := (hgb.cell _).trans (hcz 1 _ rfl)
    have z2 : w6.cell? ⟨g, n * 6 + 2, none⟩ = some (.int .i64 0) := (hgb.cell _).trans (hcz 2 _ rfl)
    have z3 : w6.cell? ⟨g, n * 6 + 3, none⟩ = some (.int .i64 0) := (hgb.cell _).trans (hcz 3 _ rfl)
    have z40 : w6.cell? ⟨g, n * 6 + 4, none⟩ = some (.int .i64 0) := (hgb.cell _).trans (hcz 4 _ rfl)
    have z5 : w6.cell? ⟨g, n * 6 + 5, none⟩ = some (.slice none 0 0) := (hgb.cell _).trans (hcz 5 _ rfl)
    have g0 : w6.frozen? ⟨g, n * 6, none⟩ = false := hgb.frozen _
    have g1 : w6.frozen? ⟨g, n * 6 + 1, none⟩ = false := hgb.frozen _
    have g2 : w6.frozen? ⟨g, n * 6 + 2, none⟩ = false := hgb.frozen _
    have g3 : w6.frozen? ⟨g, n * 6 + 3, none⟩ = false := hgb.frozen _
    have g4 : w6.frozen? ⟨g, n * 6 + 4, none⟩ = false := hgb.frozen _
    have g5 : w6.frozen? ⟨g, n * 6 + 5, none⟩ = false := hgb.frozen _
    have hnn : (n : Int) < (n : Int) + 1 := by omega
    clear z4 c0 c1 c2 c3 c4 c5
    have HFIN := Lib.hid (show ∀ wz, ExtQ (fun k => k = p ∨ k = g) w6 wz → Blk wz p 87 (paCs k0 k1 k2 k3 (.slice (some ⟨g, 0, none⟩) (n + 1) cap) out iv av 1) → wz.ownsRow B 57 6 (.slice (some ⟨g, 0, none⟩) (n + 1) cap) (n + 1) (xs ++ [.int .i64 o, .slice Au ins.length cu, .int .i64 kd, .int .i64 fa, .int .i64 a, .slice none 0 0]) → ∃ nv', Blk wz p 87 (paCs k0 k1 k2 k3 nv' out iv av 1) ∧ NdsO 1 p B wz nv' (ns ++ [.mk o ins kd fa a []]) ∧ (∃ gn, InO p B gn wz nv' (.slice none 0 0) ns (.mk o ins kd fa a []) []) ∧ Bx6 wz b6 57 (.int .i64 o) (.slice Au ins.length cu) (.int .i64 kd) (.int .i64 fa) (.int .i64 a) (.slice none 0 0) ∧ ExtQ (fun k => k = p ∨ B ≤ k) w wz from fun wz hz hbz hoz => by
      have s1 := HSZ.out
      have s2 := HX0.out.size
      have s3 := HB6.out.b.lt
      have s4 := hx6.size
      have s5 := hz.size
      have s6 := HB6L.out
      have hgn : ∀ j, (Value.slice An n cn).ownBlock = some j → j < w0.heap.size := fun j hj => (HBV.out j hj).2.1
      have hx0z : ExtQ (MayK (fun k => k < B) (.slice An n cn) w0) w0 wz := by
        refine ((ExtQ.of HX0.out).trans (hx6.mono fun k hk => .inr (.inl hk))).trans (hz.mono fun k hk => ?_)
        rcases hk with hk | hk
        · exact .inl (show k < B by omega)
        · subst hk
          rcases hg with hg | hg
          · exact .inr (.inl hg)
          · exact .inr (.inr (by omega))
      have hre : ∀ W, ExtQ (fun k => k < B ∨ k = g ∨ wz.heap.size ≤ k) wz W → RE W (.slice Au ins.length cu) ins := fun W hW => by
        refine (oe_extQ' HOU3.out ((hx6.mono (Q' := fun k => k < B ∨ k = g ∨ (Value.slice An n cn).ownBlock = some k ∨ wz.heap.size ≤ k) fun k hk => .inr (.inr (.inl hk))).trans ((hz.mono fun k hk => ?_).trans (hW.mono fun k hk => ?_))) (fun j hj e => ?_)).re
        · rcases hk with hk | hk
          · exact .inl (show k < B by omega)
          · exact .inr (.inl hk)
        · rcases hk with hk | hk | hk
          · exact .inl hk
          · exact .inr (.inl hk)
          · exact .inr (.inr (.inr hk))
        · have h1 := HOU3.out.lt hj
          rcases e with e | e | e | e
          · omega
          · subst e
            rcases hg with hg | hg
            · have := hgn _ hg; omega
            · omega
          · have := hgn _ e; omega
          · omega
      refine ⟨_, hbz, ?_, ⟨g, ⟨by omega, hBg⟩, ⟨cap, by rw [← HN.out], by rw [← HN.out]; exact hcn, hcm, ?_⟩, OS.nil _ _ _ _ _ _, by simp [Value.ownBlock]⟩, bx6_extQ (HBX.out _ hx6) hz (fun e => ?_), ?_⟩
      · rw [← HXS.out] at hoz
        refine os_put HR2.out HR3.out (by rw [← HN.out]; exact hoz) hx0z (fun j hj => ?_) rfl (fun W hW => ⟨_, _, rfl, hre W (hW.mono fun k hk => ?_), NodesR.nil 1 W⟩)
        · have hj : g = j := Option.some.inj hj
          subst hj
          rcases hg with hg | hg
          · exact .inl hg
          · exact .inr (by omega)
        · rcases hk with hk | hk | hk
          · exact .inl hk
          · exact .inr (.inl (Option.some.inj hk).symm)
          · exact .inr (.inr hk)
      · obtain ⟨cur2, k1, k2, -, -, -, k3, k4⟩ := own_cells hoz hxl
        refine ⟨cur2, rows, .slice Au ins.length cu, k1, k2, by rw [← HN.out, HXS.out]; exact k3, fun j u hj => by rw [← HN.out]; exact k4 j u hj, HR2.out, fun i r x hr hx => ⟨(HR3.out i r x hr hx).1, fun W hW => (HR3.out i r x hr hx).2 W (hx0z.trans (hW.mono fun k hk => ?_))⟩, fun W hW => hre W (hW.mono fun k hk => ?_)⟩
        · rcases hk with hk | hk | hk | hk
          · exact .inl hk
          · subst hk
            rcases hg with hg | hg
            · exact .inr (.inl hg)
            · exact .inr (.inr (by omega))
          · simp [Value.ownBlock] at hk
          · exact .inr (.inr (by omega))
        · rcases hk with hk | hk | hk | hk
          · exact .inl hk
          · exact .inr (.inl hk)
          · simp [Value.ownBlock] at hk
          · exact .inr (.inr hk)
      · rcases e with e | e
        · omega
        · rcases hg with hg | hg
          · have := hgn _ hg; omega
          · omega
      · refine (((HQ1.out.mono fun k hk => ?_).trans (ExtQ.of HQ3.out)).trans (hx6.mono fun k hk => .inr (HBV.out k hk).2.2)).trans (hz.mono fun k hk => ?_)
        · have hk : k = q := hk
          exact .inr (by omega)
        · rcases hk with hk | hk
          · exact .inl hk
          · exact .inr (by omega))
    show wpAny _ _ _ _ 7 _ _ _
    refine wpAny_take (i := 10) (v := ?_) rfl (by kernel_rfl) (by kernel_rfl) (by kernel_rfl) (fun _ _ _ h => h) (Or.inl ⟨by rfl, ?_⟩) ?_
    rotate_left
    · intro W9
      go_simp
      with_reducible rfl
    refine wpAny_take (i := 12) (v := ?_) rfl (by kernel_rfl) (by kernel_rfl) (by kernel_rfl) (fun _ _ _ h => h) (Or.inl ⟨by rfl, ?_⟩) ?_
    rotate_left
    · intro W9
      go_simp
      with_reducible rfl
    refine wpAny_take (i := 13) (v := ?_) rfl (by kernel_rfl) (by kernel_rfl) (by kernel_rfl) (fun _ _ _ h => h) (Or.inl ⟨by rfl, ?_⟩) ?_
    rotate_left
    · intro W9
      go_simp
      with_reducible rfl
    refine wpAny_take (i := 14) (v := ?_) rfl (by kernel_rfl) (by kernel_rfl) (by kernel_rfl) (fun _ _ _ h => h) (Or.inl ⟨by rfl, ?_⟩) ?_
    rotate_left
    · intro W9
      go_simp
      with_reducible rfl
    refine wpAny_take (i := 15) (v := ?_) rfl (by kernel_rfl) (by kernel_rfl) (by kernel_rfl) (fun _ _ _ h => h) (Or.inl ⟨by rfl, ?_⟩) ?_
    rotate_left
    · intro W9
      go_simp
      with_reducible rfl
    refine wpAny_ready (rs := [11, 16]) (by kernel_rfl) (by simp) ?_
    refine AllReady.cons rfl (fun K hK => ?_) (AllReady.cons rfl (fun K hK => ?_) AllReady.nil)
    all_goals
      go_simp
      refine hK _ _ ?_
      clear hK K
    · refine wpAny_ready (rs := [16]) (by kernel_rfl) (by simp) ?_
      refine AllReady.cons rfl (fun K hK => ?_) AllReady.nil
      go_simp
      refine hK _ _ ?_
      refine wpAny_done (by kernel_rfl) ?_ _
      go_wp2
      go_meet
      have e1 : ExtQ (fun k => k = g) w6 (w6.setCells g (n * 6) [.int .i64 o, .slice Au ins.length cu, .int .i64 kd, .int .i64 fa, .int .i64 a, .slice none 0 0]) := ExtQ.setCells (Q := fun k => k = g) (ExtQ.refl _ _) rfl _ _
      exact HFIN.out _ ((e1.mono fun k hk => .inr hk).trans ((exq_set1 _ p 4 _).mono fun k hk => .inl hk)) ((hpb.extQ e1 hpg).set_ 4 _) (ownsRow_extQ (own_put (r := [.int .i64 o, .slice Au ins.length cu, .int .i64 kd, .int .i64 fa, .int .i64 a, .slice none 0 0]) hgb hcs hcn hcm hBg hct rfl) (exq_set1 _ p 4 _) (fun k hk e => by injection hk with hk; exact hgp (hk.trans e)))
    · refine wpAny_ready (rs := [11]) (by kernel_rfl) (by simp) ?_
      refine AllReady.cons rfl (fun K hK => ?_) AllReady.nil
      go_simp
      refine hK _ _ ?_
      refine wpAny_done (by kernel_rfl) ?_ _
      go_wp2
      go_meet
      have e1 : ∀ w9, ExtQ (fun k => k = g) w9 (w9.setCells g (n * 6) [.int .i64 o, .slice Au ins.length cu, .int .i64 kd, .int .i64 fa, .int .i64 a, .slice none 0 0]) := fun w9 => ExtQ.setCells (Q := fun k => k = g) (ExtQ.refl _ _) rfl _ _
      exact HFIN.out _ (((exq_set1 w6 p 4 _).mono fun k hk => .inl hk).trans ((e1 _).mono fun k hk => .inr hk)) ((hpb.set_ 4 _).extQ (e1 _) hpg) (own_put (r := [.int .i64 o, .slice Au ins.length cu, .int .i64 kd, .int .i64 fa, .int .i64 a, .slice none 0 0]) (hgb.extQ (exq_set1 w6 p 4 _) hgp) hcs hcn hcm hBg hct rfl)
  case rest =>
    have hcut2 := hcut
    rename World => wc
    clear hcut
    obtain ⟨nv', hbp, hos, ⟨gn, hino⟩, hbx, hxc⟩ := hcut2
    have HIN := Lib.hid hino
    have HBP := Lib.hid hbp
    have HOS := Lib.hid hos
    have HXC := Lib.hid hxc
    obtain ⟨c0, c1, c2, c3, c4, c5⟩ := hbx.at_
    have f8 := hbp.frozen 8
    have y8 := hbp.cell 8
    clear hbp hos hbx hxc hino z4
    by_cases o9 : o = 9
    · subst o9
      go_wp2
      go_ret
      have hst := exq_set1 wc p 8 (.int .i64 2)
      have hst2 := hst.mono (Q' := fun k => k < B) fun k (hk : k = p) => by have h2 := HSZ.out; show k < B; omega
      refine ⟨rfl, _, by simpa using HBP.out.set_ 8 (.int .i64 2), HOS.out.extQ hst2 (fun j hj => .inl hj) (fun j hj e => ?_), ⟨gn, HIN.out.extQ hst2 (fun j hj => .inl hj)⟩, HXC.out.trans (hst.mono fun k hk => .inl hk)⟩
      have h1 := HOS.out.lt hj
      have h2 := HSZ.out
      omega
    · have b9 : ((o : Int) == 9) = false := by simp; omega
      have b8 : ¬ (o : Int) = 9 := by omega
      go_wp2
      go_ret
      exact ⟨rfl, _, HBP.out, HOS.out, ⟨gn, HIN.out⟩, HXC.out⟩
end Go.Proofs.YtpmgmiiidfconaaGreatDoor
