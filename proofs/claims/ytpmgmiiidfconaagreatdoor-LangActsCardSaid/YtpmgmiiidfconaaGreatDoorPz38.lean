/-
  LaStep, LaBag, packed: what the claim needs of them.
-/
import Derived.Test.YtpmgmiiidfconaaGreatDoorPz37
import Derived.Test.YtpmgmiiidfconaaGreatDoorPz36
import Derived.Test.YtpmgmiiidfconaaGreatDoorPz29
set_option linter.unusedVariables false
set_option linter.unusedSimpArgs false
namespace Go.Proofs.YtpmgmiiidfconaaGreatDoor
open Go.RowKit Go.Ox Go.Ox.Gr Go.Ox.Sc Go.Ox.La Go.Shelf
abbrev Cfg4 := Int × Int × Int × Int
abbrev paC (c : Cfg4) (nv : Value) (out : Int) (iv av : Value) (at_ : Int) : Array Value := paCs c.1 c.2.1 c.2.2.1 c.2.2.2 nv out iv av at_
abbrev nilV : Value := .slice none 0 0
/-- where a parser stands -/
inductive PSt
  | z
  | n (c : Cfg4) (ns : List Nd)
  | b (c : Cfg4) (ns : List Nd) (n0 : Nd) (bs : List Nd)
  | e (c : Cfg4) (ns : List Nd)
  | o (c : Cfg4) (ns : List Nd) (out : Int)
  | ep (c : Cfg4) (ns : List Nd) (out : Int) (bs : List Bag)
  | a (c : Cfg4) (ns : List Nd) (out : Int) (bs : List Bag) (acts : List Sc.Act)
def NsF (C N : Nat) (w : World) (nv : Value) (ns : List Nd) : Prop := ∀ V, ExtQ (fun k => k < C ∨ N ≤ k) w V → NodesR 2 V nv ns
theorem NsF.step {C N : Nat} {w w' : World} {nv : Value} {ns : List Nd} {Q : Nat → Prop} (h : NsF C N w nv ns) (he : ExtQ Q w w') (hq : ∀ k, Q k → k < C ∨ N ≤ k) : NsF C N w' nv ns := fun V hV => h V ((he.mono hq).trans hV)
theorem NsF.ext {C N : Nat} {w w' : World} {nv : Value} {ns : List Nd} (h : NsF C N w nv ns) (he : Ext w w') : NsF C N w' nv ns := h.step (Q := fun _ => False) (ExtQ.of he) (fun _ h => h.elim)
def PSt.At (p C : Nat) (w : World) : PSt → Prop
  | .z => Blk w p 87 (paCs 0 0 0 0 nilV 0 nilV nilV 0)
  | .n c ns => ∃ nv, Blk w p 87 (paC c nv 0 nilV nilV 1) ∧ NdsO 1 p C w nv ns
  | .b c ns n0 bs => ∃ nv bv gn, Blk w p 87 (paC c nv 0 nilV nilV 2) ∧ InO p C gn w nv bv ns n0 bs
  | .e c ns => ∃ nv N, Blk w p 87 (paC c nv 0 nilV nilV 1) ∧ N ≤ w.heap.size ∧ NsF C N w nv ns
  | .o c ns out => ∃ nv N, Blk w p 87 (paC c nv out nilV nilV 3) ∧ N ≤ w.heap.size ∧ NsF C N w nv ns
  | .ep c ns out bs => ∃ nv iv bv N B g, Blk w p 87 (paC c nv out iv nilV 4) ∧ (C ≤ B ∧ N ≤ B ∧ B ≤ w.heap.size) ∧ NsF C N w nv ns ∧ EpO p B g w iv bv bs
  | .a c ns out bs acts => ∃ nv iv av, Blk w p 87 (paC c nv out iv av 5) ∧ ∀ V, ExtQ (fun k => k < C) w V → ScR 2 V nv iv av ⟨c, (ns, out), [bs], acts⟩
theorem PSt.ext {p C : Nat} {w w' : World} : ∀ {s : PSt}, s.At p C w → Ext w w' → s.At p C w'
  | .z, h, he => Blk.ext h he
  | .n c ns, ⟨nv, h1, h2⟩, he => ⟨nv, h1.ext he, h2.ext he⟩
  | .b c ns n0 bs, ⟨nv, bv, gn, h1, h2⟩, he => ⟨nv, bv, gn, h1.ext he, h2.extQ (Q := fun _ => False) (ExtQ.of he) (fun _ h => h.elim)⟩
  | .e c ns, ⟨nv, N, h1, h2, h3⟩, he => ⟨nv, N, h1.ext he, Nat.le_trans h2 he.size, h3.ext he⟩
  | .o c ns out, ⟨nv, N, h1, h2, h3⟩, he => ⟨nv, N, h1.ext he, Nat.le_trans h2 he.size, h3.ext he⟩
  | .ep c ns out bs, ⟨nv, iv, bv, N, B, g, h1, h2, h3, h4⟩, he => ⟨nv, iv, bv, N, B, g, h1.ext he, ⟨h2.1, h2.2.1, Nat.le_trans h2.2.2 he.size⟩, h3.ext he, h4.ext he⟩
  | .a c ns out bs acts, ⟨nv, iv, av, h1, h2⟩, he => ⟨nv, iv, av, h1.ext he, fun V hV => h2 V ((ExtQ.of he).trans hV)⟩
/-- a line leads from a state to another one -/
def Leads (ws : List W) (s t : PSt) : Prop :=
  ∀ p C W0 W q, p < C → C ≤ W0.heap.size → s.At p C W0 → Ptb W0 → WsR 60 W0 W q ws false → q < W.heap.size →
    Calls Tryz.prog 33 #[.pointer (some ⟨p, 0, none⟩), .pointer (some ⟨q, 0, none⟩)] W fun e w' => e = .returned (.bool true) ∧ t.At p C w' ∧ ExtQ (fun k => k = p ∨ C ≤ k) W w'
def LeadsNot (ws : List W) (s : PSt) : Prop :=
  ∀ p C W0 W q, p < C → C ≤ W0.heap.size → s.At p C W0 → Ptb W0 → WsR 60 W0 W q ws false → q < W.heap.size →
    Calls Tryz.prog 33 #[.pointer (some ⟨p, 0, none⟩), .pointer (some ⟨q, 0, none⟩)] W fun e w' => e = .returned (.bool false) ∧ ExtQ (fun k => k = p ∨ C ≤ k) W w'
theorem ws_cell {T : TypeId} {w0 w1 : World} {q : Nat} {x : W} {xs : List W} (h : WsR T w0 w1 q (x :: xs) false) : ∃ A c, w1.cell? ⟨q, 0, none⟩ = some (.slice A (x :: xs).length c) ∧ RE w1 (.slice A (x :: xs).length c) (x :: xs) := by
  obtain ⟨A, c, h1, h2⟩ := h.b
  exact ⟨A, c, (h2.cell 0).trans rfl, h1.ext h.x⟩
attribute [local irreducible] RE OE wordsL GlT RP OP EpR InsR ActsR NodesR wnB named1
theorem leads_config (xs : List W) (n0 n1 n2 n3 : Int) (hw : ∀ x ∈ xs, x.length ≤ 1000000) (hl : xs.length ≤ 1000000) (hok : wnsOk xs = true) (hn : wnsB xs = [n0, n1, n2, n3]) : Leads (cfgW :: xs) .z (.n (n0, n1, n2, n3) []) := by
  intro p C W0 W q hpC hC hs ht hws hq
  have hb : Blk W p 87 (paCs 0 0 0 0 nilV 0 nilV nilV 0) := Blk.ext hs hws.x
  refine pline_0 p q cfgW xs 0 0 0 0 nilV nilV nilV 0 0 true _ W hb rfl ((pconfig_any W0 p q xs n0 n1 n2 n3 0 0 0 0 nilV nilV nilV 0 0 W hws hq hb hw hl hok hn).mono fun e w' h => ⟨h.1, ⟨nilV, h.2.1, OS.nil _ _ _ _ _ _⟩, h.2.2.mono fun k hk => ?_⟩)
  rcases hk with hk | hk
  · exact .inl hk
  · have := hws.low; exact .inr (by omega)
theorem leads_node (c : Cfg4) (o : Nat) (x : W) (r : List W) (ns : List Nd) (nd : Nd) (ho : (nameL ns.length false :: [61] :: x :: r) ≠ [] ∧ nameL ns.length false ≠ [111, 117, 116]) (hw : ∀ y ∈ r, y.length ≤ 1000000) (hl : r.length ≤ 1000000) (hnl : ns.length ≤ 1000) (ho1 : 1 ≤ o) (ho12 : o < 12) (hx : opsAt o = x) (hne : x ≠ []) (hb9 : ∀ j, j < o → opsAt j ≠ x)
    (hN : nodeP o r ns.length false = (nd, false)) (hm : mayB nd false = true) : Leads (nameL ns.length false :: [61] :: x :: r) (.n c ns) (if o = 9 then .b c ns nd [] else .n c (ns ++ [nd])) := by
  intro p C W0 W q hpC hC ⟨nv, hb0, hs⟩ ht hws hq
  have hb := Blk.ext hb0 hws.x
  have hcall := pnode_any W0 p q o C x r ns c.1 c.2.1 c.2.2.1 c.2.2.2 nv nilV nilV 0 W hws hq hb hs hpC hC hw hl hnl ht.t ht.o ht.f ho1 ho12 hx hne hb9 (fun _ => by rw [hN]; exact hm)
  rw [hN] at hcall
  refine pline_1n p q _ _ _ _ _ _ _ _ _ _ 1 true _ W hb rfl (ws_cell hws) ho.2 (hcall.mono fun e w' h => ⟨h.1, ?_, ?_⟩)
  · obtain ⟨nv', h1, h2, ⟨gn, h3⟩, h4⟩ := h.2
    by_cases h9 : o = 9
    · rw [if_pos h9] at h1 ⊢
      exact ⟨nv', _, gn, h1, h3⟩
    · rw [if_neg h9] at h1 ⊢
      exact ⟨nv', h1, h2⟩
  · obtain ⟨nv', h1, h2, ⟨gn, h3⟩, h4⟩ := h.2
    exact h4
theorem leads_nodeNot (c : Cfg4) (o : Nat) (x : W) (r : List W) (ns : List Nd) (ho : nameL ns.length false ≠ [111, 117, 116]) (hw : ∀ y ∈ r, y.length ≤ 1000000) (hl : r.length ≤ 1000000) (hnl : ns.length ≤ 1000) (ho1 : 1 ≤ o) (ho12 : o < 12) (hx : opsAt o = x) (hne : x ≠ []) (hb9 : ∀ j, j < o → opsAt j ≠ x)
    (hN : (nodeP o r ns.length false).2 = true) : LeadsNot (nameL ns.length false :: [61] :: x :: r) (.n c ns) := by
  intro p C W0 W q hpC hC ⟨nv, hb0, hs⟩ ht hws hq
  have hb := Blk.ext hb0 hws.x
  have hcall := pnode_any W0 p q o C x r ns c.1 c.2.1 c.2.2.1 c.2.2.2 nv nilV nilV 0 W hws hq hb hs hpC hC hw hl hnl ht.t ht.o ht.f ho1 ho12 hx hne hb9 (fun h => by rw [hN] at h; cases h)
  rw [hN] at hcall
  refine pline_1n p q _ _ _ _ _ _ _ _ _ _ 1 false _ W hb rfl (ws_cell hws) ho (hcall.mono fun e w' h => ⟨h.1, ?_⟩)
  obtain ⟨nv', h1, h2, ⟨gn, h3⟩, h4⟩ := h.2
  exact h4
theorem leads_inner (c : Cfg4) (o : Nat) (x : W) (r : List W) (ns bs : List Nd) (n0 nd : Nd) (hw : ∀ y ∈ r, y.length ≤ 1000000) (hl : r.length ≤ 1000) (hnl : ns.length ≤ 1000) (hbl : bs.length ≤ 1000) (ho1 : 1 ≤ o) (ho12 : o < 12) (hx : opsAt o = x) (hne : x ≠ []) (hb9 : ∀ j, j < o → opsAt j ≠ x)
    (hN : nodeP o r bs.length true = (nd, false)) (hm : mayB nd true = true) : Leads (nameL bs.length true :: [61] :: x :: r) (.b c ns n0 bs) (.b c ns n0 (bs ++ [nd])) := by
  intro p C W0 W q hpC hC ⟨nv, bv, gn, hb0, hs⟩ ht hws hq
  have hb := Blk.ext hb0 hws.x
  have hcall := pinner_node W0 p q o C gn x r ns bs n0 c.1 c.2.1 c.2.2.1 c.2.2.2 nv bv nilV nilV 0 W hws hq hb hs hC hw hl hnl hbl ht.t ht.o ht.f ho1 ho12 hx hne hb9 (fun _ => by rw [hN]; exact hm)
  rw [hN] at hcall
  refine pline_2 p q x r _ _ _ _ _ _ _ _ 2 true _ W hb rfl (hcall.mono fun e w' h => ⟨h.1, ?_, ?_⟩)
  · obtain ⟨bv', h1, h2, h3⟩ := h.2
    exact ⟨nv, bv', gn, h1, h2⟩
  · obtain ⟨bv', h1, h2, h3⟩ := h.2
    exact h3.mono fun k hk => .inr hk
theorem leads_end (c : Cfg4) (ns bs : List Nd) (n0 : Nd) : Leads [enW9] (.b c ns n0 bs) (.e c (ns ++ [.mk n0.op n0.ins n0.kind n0.fa n0.a bs])) := by
  intro p C W0 W q hpC hC ⟨nv, bv, gn, hb0, hs⟩ ht hws hq
  have hb := Blk.ext hb0 hws.x
  refine pline_2 p q enW9 [] _ _ _ _ _ _ _ _ 2 true _ W hb rfl ((pinner_end W0 p q _ _ _ _ nv nilV nilV 0 W hws hb).mono fun e w' h => ⟨h.1, ⟨nv, w'.heap.size, h.2.1, Nat.le_refl _, ?_⟩, h.2.2.mono fun k hk => .inl hk⟩)
  have h2 := hs.extQ ((ExtQ.of (Q := fun k => k = p) hws.x).trans h.2.2) (fun j (hj : j = p) => .inl (by omega))
  exact h2.done
theorem leads_out (c : Cfg4) (ns : List Nd) (x : W) (m : Int) (hw : x.length ≤ 1000000) (hm : named1 x false = (m, true)) : Leads [outW9, x] (.e c ns) (.o c ns m) := by
  intro p C W0 W q hpC hC ⟨nv, N, hb0, hN, hs⟩ ht hws hq
  have hb := Blk.ext hb0 hws.x
  refine pline_1o p q outW9 [x] _ _ _ _ _ _ _ _ 1 true _ W hb rfl (ws_cell hws) rfl ((pout_any W0 p q outW9 x m _ _ _ _ nv nilV nilV 0 1 W hws hq hb hw hm).mono fun e w' h => ⟨h.1, ⟨nv, N, h.2.1, ?_, (hs.ext hws.x).step h.2.2 fun k hk => ?_⟩, h.2.2.mono fun k hk => ?_⟩)
  · exact Nat.le_trans hN (Nat.le_trans hws.x.size h.2.2.size)
  · have := hws.low
    rcases hk with hk | hk
    · exact .inl (by omega)
    · exact .inr (by omega)
  · have := hws.low
    rcases hk with hk | hk
    · exact .inl hk
    · exact .inr (by omega)
theorem leads_epoch (c : Cfg4) (ns : List Nd) (out : Int) : Leads [epW9] (.o c ns out) (.ep c ns out []) := by
  intro p C W0 W q hpC hC ⟨nv, N, hb0, hN, hs⟩ ht hws hq
  have hb := Blk.ext hb0 hws.x
  refine pline_3 p q epW9 [] _ _ _ _ _ _ _ _ 3 true _ W hb (by decide) ((prest_epoch W0 p q _ _ _ _ nv out W hws hq hb hb.lt).mono fun e w' h => ⟨h.1, ?_, ?_⟩)
  · obtain ⟨iv', g, bv, h1, h2, h3⟩ := h.2
    have hsz := hws.x.size
    exact ⟨nv, iv', bv, N, W.heap.size, g, h1, ⟨by omega, by omega, h3.size⟩, (hs.ext hws.x).step h3 (fun k (hk : k = p) => .inl (by omega)), h2⟩
  · obtain ⟨iv', g, bv, h1, h2, h3⟩ := h.2
    exact h3.mono fun k hk => .inl hk
theorem leads_in (c : Cfg4) (ns : List Nd) (out : Int) (bs : List Bag) (xs : List W) (hw : ∀ x ∈ xs, x.length ≤ 1000000) (hl : xs.length ≤ 100000) (hok : ∀ x ∈ xs, rcOk x = true) (hbl : bs.length ≤ 1000) : Leads ([105, 110] :: xs) (.ep c ns out bs) (.ep c ns out (bs ++ [xs.map rcF])) := by
  intro p C W0 W q hpC hC ⟨nv, iv, bv, N, B, g, hb0, hNB, hs, he⟩ ht hws hq
  have hb := Blk.ext hb0 hws.x
  refine pline_3 p q [105, 110] xs _ _ _ _ _ _ _ _ 4 true _ W hb (by decide) ((prest_in W0 p q B g xs bs iv bv _ _ _ _ nv out W hws hq hb he hNB.2.2 hw hl hok ht.m hbl).mono fun e w' h => ⟨h.1, ?_, ?_⟩)
  · obtain ⟨bv', h1, h2, h3⟩ := h.2
    exact ⟨nv, iv, bv', N, B, g, h1, ⟨hNB.1, hNB.2.1, Nat.le_trans hNB.2.2 (Nat.le_trans hws.x.size h3.size)⟩, (hs.ext hws.x).step h3 (fun k (hk : B ≤ k) => .inr (by omega)), h2⟩
  · obtain ⟨bv', h1, h2, h3⟩ := h.2
    exact h3.mono fun k (hk : B ≤ k) => .inr (by omega)
theorem leads_act (c : Cfg4) (ns : List Nd) (out : Int) (bs : List Bag) (x : W) (xs : List W) (g : Sc.Act) (hw : ∀ y ∈ x :: xs, y.length ≤ 1000000) (hl : xs.length ≤ 1000) (hx1 : ¬ x :: xs = [epW9]) (hx2 : ¬ x = [105, 110]) (hg : Go.Ox.La.actL (x :: xs) = some g) : Leads (x :: xs) (.ep c ns out bs) (.a c ns out bs [g]) := by
  intro p C W0 W q hpC hC ⟨nv, iv, bv, N, B, g', hb0, hNB, hs, he⟩ ht hws hq
  have hb := Blk.ext hb0 hws.x
  have hlow := hws.low
  have hszw := hws.x.size
  refine pline_3 p q x xs _ _ _ _ _ _ _ _ 4 true _ W hb (by decide) ((prest_act W0 p q x xs g _ _ _ _ nv iv out W hws hq hb hw hl hx1 hx2 hg ht.t).mono fun e w' h => ⟨h.1, ?_, ?_⟩)
  · obtain ⟨av', h1, h2, h3⟩ := h.2
    have hgl : g' < W0.heap.size := by
      obtain ⟨⟨_, cur, _, _, _, _, h5⟩, _, _⟩ := he
      exact h5.lt
    have he' := he.extQ ((ExtQ.of (Q := fun k => k = p ∨ k = q) hws.x).trans h3) (fun e => by have := he.lt; rcases e with e | e <;> omega) (fun j hj => by have := he.lt; rcases hj with hj | hj <;> omega)
    have hs' := (hs.ext hws.x).step h3 (fun k hk => by have := hNB.2.1; rcases hk with hk | hk <;> omega)
    refine ⟨nv, iv, av', h1, fun V hV => ⟨?_, ?_, ?_⟩⟩
    · exact hs' V (hV.mono fun k hk => .inl hk)
    · exact (he'.extQ hV (fun e => by have := he.lt; have := hNB.1; omega) (fun j hj => .inl (by have := hNB.1; omega))).insR
    · exact h2 V (hV.mono fun k hk => by omega)
  · obtain ⟨av', h1, h2, h3⟩ := h.2
    exact h3.mono fun k hk => by
      rcases hk with hk | hk
      · exact .inl hk
      · exact .inr (by omega)
end Go.Proofs.YtpmgmiiidfconaaGreatDoor
set_option linter.unusedVariables false
set_option linter.unusedSimpArgs false
namespace Go.Proofs.YtpmgmiiidfconaaGreatDoor
open Go.RowKit Go.Ox Go.Ox.Gr Go.Ox.Sc Go.Ox.La Go.Shelf
/-- a record's word -/
def recW (r : Rec.R) : W := Lib.decDigits r.1.toNat ++ (58 :: Lib.decDigits r.2.toNat)
def inW : W := [105, 110]
/-- a bag's words -/
def bagW (b : Bag) : List W := inW :: (Rec.srt b).map recW
theorem own_two {α β : Type} [Enc α] [Enc β] {E E' B B' : Nat} {w : World} {v u : Value} {l : List α} {r : List β} (h : OE E B w v l) (k : OE E' B' w u r) (hE : E ≠ E') : ∀ g, u.ownBlock = some g → v.ownBlock ≠ some g := by
  intro g hg hv
  rcases h.own.2 with ⟨rfl, -⟩ | ⟨g1, cap, cur, rfl, _, h1, -⟩
  · simp [Value.ownBlock] at hv
  · obtain rfl : g1 = g := by simpa [Value.ownBlock] using hv
    rcases k.own.2 with ⟨rfl, -⟩ | ⟨g2, cap2, cur2, rfl, _, h2, -⟩
    · simp [Value.ownBlock] at hg
    · obtain rfl : g2 = g1 := by simpa [Value.ownBlock] using hg
      rw [h1] at h2
      injection h2 with h2
      injection h2 with _ h3
      exact hE h3
attribute [local irreducible] RE OE OB GlT NodesR RP OP
set_option maxRecDepth 100000 in
set_option maxHeartbeats 16000000 in
theorem wbag_any (B p : Nat) (l : List UInt8) (v : Value) (b : Bag) (w0 w : World) (h : WB TW TB B p w l) (hv : RP w0 v b) (hx : Ext w0 w) (h0 : w0.heap.size ≤ B) (hB : B ≤ w.heap.size) (ht : Tab w0) (hm : Rec.may b = 0) (hb : b.length ≤ 1000) (hr : ∀ x ∈ Rec.srt b, (0 ≤ x.1 ∧ x.1 < 9223372036854775808) ∧ 0 ≤ x.2 ∧ x.2 < 9223372036854775808) (hsl : (Rec.srt b).length ≤ 1000) (hl : l.length + (joinL (bagW b)).length ≤ 999998) :
    Calls Tryz.prog 28 #[.pointer (some ⟨p, 0, none⟩), v] w fun e w' => e = .returned (.tuple #[]) ∧ WB TW TB B p w' (l ++ (joinL (bagW b) ++ [10])) ∧ WF TB B p w w' := by
  have HW := Lib.hid h
  have HX := Lib.hid hx
  have HBW := Lib.hid hB
  have HT := Lib.hid ht
  have HR := Lib.hid hr
  have HSL := Lib.hid hsl
  have HL := Lib.hid hl
  have hal := (Ext.refl w).alloc (.cells #[.string ⟨#[105, 110]⟩] 9)
  have HO1 := Lib.hid (strs_lit w #[.string ⟨#[105, 110]⟩] 1 w.heap.size [inW] (Nat.le_refl _) rfl (by omega) rfl)
  have HX1 := Lib.hid hal
  have HCS := Lib.hid (sort_ok v b (w.alloc (.cells #[.string ⟨#[105, 110]⟩] 9)) (RP.ext hv (hx.trans hal)) (by omega) hm)
  have HBE := Lib.hid (show bagW b = inW :: (Rec.srt b).map recW from rfl)
  have HCL := Lib.hid (fun W v hW hv hBW => wline_any B p l v (bagW b) W hW hv (by rw [HBE.out]; simp; omega) hBW hl)
  generalize bagW b = bw at *
  generalize Rec.srt b = S at *
  obtain ⟨A, c, rfl⟩ := hv.form
  clear h hv hx h0 hB ht hl hal hr hsl hm hb
  go_enter Tryz.func28, Tryz.ntmps28
  go_wp2_with fail
  obtain ⟨base, hbase⟩ : ∃ base, base = w.heap.size := ⟨_, rfl⟩
  rw [← hbase] at HO1 ⊢
  have HBS := Lib.hid hbase
  clear hbase
  generalize w.alloc (.cells #[.string ⟨#[105, 110]⟩] 9) = w1 at *
  refine HCS.out.mono ?_
  rintro e w2 ⟨u, rfl, hu, he⟩
  have HU := Lib.hid (OP.oe (E := 66) hu)
  obtain ⟨Au, cu, rfl⟩ := hu.rp.form
  have HX2 := Lib.hid (HX1.out.trans he)
  have HO2 := Lib.hid (HO1.out.ext he)
  clear hu he
  go_wp2
  go_loopw [4, 17] (fun lv iv wr => ∃ j : Nat, j ≤ S.length ∧ iv = .int .i64 (j : Int) ∧ OE 9 base wr lv (inW :: (S.take j).map recW) ∧ OE 66 w1.heap.size wr (.slice Au S.length cu) S ∧ Ext w wr) (fun _ iv _ => S.length - (intOf iv).toNat)
  case atStart => exact ⟨0, Nat.zero_le _, rfl, HO2.out, HU.out, HX2.out⟩
  case round =>
    obtain ⟨j, hj, rfl, ho, hu, hext⟩ := hrel
    rename World => wr
    obtain ⟨P, hP⟩ : ∃ P, inW :: (S.take j).map recW = P := ⟨_, rfl⟩
    rw [hP] at ho
    have HPL := Lib.hid (show P.length ≤ 1001 from by rw [← hP]; have h1 := HSL.out; simp; omega)
    have HPE := Lib.hid hP
    obtain ⟨AP, cP, rfl⟩ := ho.re.form
    have HO := Lib.hid ho
    have HUR := Lib.hid hu
    have HE := Lib.hid hext
    have hj9 : j ≤ 1000 := by have := HSL.out; omega
    clear ho hu hext hP
    by_cases hlt : j < S.length
    · have q1 : (j : Int) < (S.length : Int) := by omega
      have q1n := hlt
      have q0 : 0 ≤ (j : Int) := by omega
      obtain ⟨bR, oR, rfl, z0, z1⟩ := RP.at_ (RE.rp HUR.out.re) hlt
      have hxr := HR.out _ (List.getElem_mem hlt)
      have HS := Lib.hid (show inW :: (S.take (j + 1)).map recW = P ++ [recW (S[j]'hlt)] from by
        rw [← HPE.out, List.take_succ_eq_append_getElem hlt, List.map_append]
        rfl)
      generalize S[j]'hlt = r at *
      obtain ⟨k, v⟩ := r
      obtain ⟨k, rfl⟩ : ∃ y : Nat, k = (y : Int) := ⟨k.toNat, by have := hxr.1.1; dsimp only at this; omega⟩
      obtain ⟨v, rfl⟩ : ∃ y : Nat, v = (y : Int) := ⟨v.toNat, by have := hxr.2.1; dsimp only at this; omega⟩
      dsimp only at z0 z1 hxr
      rw [show recW ((k : Int), (v : Int)) = Lib.decDigits k ++ (58 :: Lib.decDigits v) from rfl] at HS
      have HT1 := Lib.hid (HT.out.ext (HX.out.trans HE.out))
      have HLT := Lib.hid hlt
      have HCK := Lib.hid (fun W ht => itoa_any k (by have := hxr.1.2; omega) W ht)
      have HCV := Lib.hid (fun W ht => itoa_any v (by have := hxr.2.2; omega) W ht)
      have HLK := Lib.hid (dec_len (m := k) (by have := hxr.1.2; omega))
      have HLV := Lib.hid (dec_len (m := v) (by have := hxr.2.2; omega))
      clear hlt hj hxr
      generalize Lib.decDigits k = dk at *
      generalize Lib.decDigits v = dv at *
      have hal : Ext wr (wr.alloc (.cells #[.int .i64 (k : Int), .int .i64 (v : Int)] 66)) := (Ext.refl _).alloc _
      have HB := Lib.hid (Blk.new wr 66 #[.int .i64 (k : Int), .int .i64 (v : Int)])
      have HO3 := Lib.hid (HO.out.ext hal)
      have HU3 := Lib.hid (HUR.out.ext hal)
      have HX3 := Lib.hid (HE.out.trans hal)
      have HT3 := Lib.hid (HT1.out.ext hal)
      go_upto_region 5 with fail
      obtain ⟨p8, hp8⟩ : ∃ p8, p8 = wr.heap.size := ⟨_, rfl⟩
      rw [← hp8] at HB ⊢
      clear hp8 z0 z1 hal
      generalize wr.alloc (.cells #[.int .i64 (k : Int), .int .i64 (v : Int)] 66) = w3 at *
      have c0 : w3.cell? ⟨p8, 0, none⟩ = some (.int .i64 (k : Int)) := (HB.out.cell 0).trans rfl
      have c1 : w3.cell? ⟨p8, 1, none⟩ = some (.int .i64 (v : Int)) := (HB.out.cell 1).trans rfl
      have ha1 : ∀ W, (Op.stringOp .add ⟨dk.toArray⟩ ⟨#[58]⟩).run Tryz.prog W = .ok (strV (dk ++ [58])) W := fun W => add_str (t := 9) dk [58] W (by have := HLK.out; simp; omega)
      have ha2 : ∀ W, (Op.stringOp .add ⟨(dk ++ [58]).toArray⟩ ⟨dv.toArray⟩).run Tryz.prog W = .ok (strV (dk ++ [58] ++ dv)) W := fun W => add_str (t := 9) (dk ++ [58]) dv W (by have := HLK.out; have := HLV.out; simp; omega)
      go_wp2
      refine wp_region_tailY 10 [] [] Ext Ext (fun _ => True) (by kernel_rfl) (by kernel_rfl) (by kernel_rfl) (by kernel_rfl) (by kernel_rfl) (by kernel_rfl) (by kernel_rfl) (by rfl) (by rfl) (by kernel_rfl) (by kernel_rfl) (by kernel_rfl) (fun _ _ _ x y => x.trans y) Ext.refl (fun _ _ x => x) (Ext.refl _).drew (fun _ _ x _ => x) trivial ?_
      refine ya ?_
      refine yl1 c0 ?_
      refine yc1 (strV dk) (fun w' hR => HCK.out w' (HT3.out.ext hR)) ?_
      refine yl0 ?_
      refine ya ?_
      refine yl1 c1 ?_
      refine yc1 (strV dv) (fun w' hR => HCV.out w' (HT3.out.ext hR)) ?_
      refine yl0 ?_
      refine wpY_call (fun v w => RE w v [dk ++ 58 :: dv]) rfl rfl (by first | exact runs0 | exact runs1 rfl) rfl (by first | exact mono_eq | exact (fun _ _ _ h k => Rd.ext h k) | exact (fun _ _ _ h k => RB.ext h k) | exact (fun _ _ _ h k => OB.ext h k) | exact (fun _ _ _ h k => RB.extS h k) | exact (fun _ _ _ h k => Rd.ext h (GrownW.ext k)) | exact (fun _ _ _ h k => RP.ext h k) | exact (fun _ _ _ h k => OP.ext h k) | exact (fun _ _ _ h k => Rd.extV h k) | exact (fun _ _ _ h k => RB.extV h k) | exact (fun _ _ _ h k => E0.ext h k) | exact (fun _ _ _ h k => O0.ext h k) | exact (fun _ _ _ h k => RE.ext h k) | exact (fun _ _ _ h k => RE.extD h k) | exact (fun _ _ _ h _ => h) | exact (fun _ _ _ ⟨n, h1, h2⟩ k => ⟨n, h1, k.st _ _ h2⟩) | exact (fun _ _ _ h k => OE.ext h k) | exact (fun _ _ _ ⟨n, h1, h2, h3⟩ k => ⟨n, h1, h2, h3.ext k⟩)) ?_ ?_
      · intro a w' hR h1 K hK
        have e1 : _ = _ := h1
        have q1 : a.tmps[29]?.getD undef = strV (dk ++ 58 :: dv) := by rw [← Array.getD_eq_getD_getElem?]; exact e1
        go_simp
        exact hK _ _ ((Ext.refl _).alloc _) (word_lit29 w' _)
      refine wpY_done ?_
      intro w4 hx4 hS4
      iterate 9 (rintro _ rfl)
      rintro v30 h30
      dsimp only [FinV]
      go_simp
      have hx4 : Ext w3 w4 := hx4
      have HO4 := Lib.hid (HO3.out.ext hx4)
      have HU4 := Lib.hid (HU3.out.ext hx4)
      have HX4 := Lib.hid (HX3.out.trans hx4)
      have H30 := Lib.hid h30
      clear c0 c1 ha1 ha2 hx4 hS4 h30 HB HO3 HU3 HX3 HT3
      simp only [thenTail, List.drop_succ_cons, List.drop_zero]
      generalize hz : dk ++ 58 :: dv = z at *
      have HZ := Lib.hid hz
      clear hz
      go_wp2_with (at_builtin; refine wpList_appE rfl elemW _ _ _ rfl base _ _ P [z] rfl HO4.out rfl H30.out (by have := HPL.out; simp only [List.length_singleton]; omega) (by have := HPL.out; simp only [List.length_singleton]; unfold maxLen; omega) (by have h1 := HX4.out.size; have h2 := HBS.out; omega) ?_; intro v9 w9 ho9 hb9 hg9)
      exact ⟨⟨j + 1, HLT.out, by go_num, by rw [HS.out]; exact ho9, OE.grown HU4.out hg9 (fun g hg => own_two HO4.out HU4.out (by decide) g hg), Below.trans HX4.out (by have := hb9; rw [HBS.out] at this; exact this)⟩, by have := HLT.out; simp [intOf]; omega⟩
    · have q1 : ¬ (j : Int) < (S.length : Int) := by omega
      obtain rfl : j = S.length := by omega
      have HRE := Lib.hid (show RE wr (.slice AP P.length cP) bw from by
        rw [HBE.out]
        have h1 := HPE.out
        rw [List.take_length] at h1
        rw [h1]
        exact HO.out.re)
      have HBZ := Lib.hid (Nat.le_trans HBW.out HE.out.size)
      have HFE := Lib.hid (WF.of (E := TB) (p := p) HE.out HBW.out)
      clear hlt hj
      go_wp2_with fail
      refine (HCL.out _ _ (HW.out.ext HE.out) HRE.out HBZ.out).mono ?_
      rintro e w17 ⟨rfl, hw17, hb17⟩
      have HF := Lib.hid (HFE.out.trans hb17)
      have HWF := Lib.hid hw17
      clear hw17 hb17
      go_wp2
      go_end0
      exact ⟨rfl, HWF.out, HF.out⟩
end Go.Proofs.YtpmgmiiidfconaaGreatDoor
