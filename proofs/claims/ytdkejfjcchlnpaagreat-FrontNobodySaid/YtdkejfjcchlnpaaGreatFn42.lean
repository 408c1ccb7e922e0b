/-
  GrPut, packed: what the claim needs of them.
-/
import Derived.Test.YtdkejfjcchlnpaaGreatFn26
set_option maxHeartbeats 40000000
open Go.Lib (hid)
set_option linter.unusedSimpArgs false
set_option linter.unusedVariables false
set_option maxRecDepth 100000
namespace Go.Proofs.YtdkejfjcchlnpaaGreat
open Go.RowKit Go.Ox Go.Ox.Gr
structure WS (B p : Nat) (w : World) (bv : Value) (l : List UInt8) : Prop where
 blk : Blk w p 149 #[bv]
 ob : OB 5 B w bv l
 ne : bv.ownBlock ≠ some p
structure WX (p : Nat) (bv : Value) (w : World) (bv' : Value) (w' : World) : Prop where
 x : ExtQ (fun k => k = p ∨ bv.ownBlock = some k) w w'
 own : ∀ k, bv'.ownBlock = some k → bv.ownBlock = some k ∨ w.heap.size ≤ k
section
variable {B p : Nat} {w w' w2 : World} {bv bv' bv2 : Value} {l m : List UInt8}
theorem WX.refl (p : Nat) (bv : Value) (w : World) : WX p bv w bv w := ⟨ExtQ.refl _ _, fun _ h => .inl h⟩
theorem WX.trans (h : WX p bv w bv' w') (k : WX p bv' w' bv2 w2) : WX p bv w bv2 w2 :=
 ⟨⟨k.x.os.trans h.x.os, k.x.tape.trans h.x.tape, k.x.output.trans h.x.output, Nat.le_trans h.x.size k.x.size, fun j hj hn => (k.x.block j (Nat.lt_of_lt_of_le hj h.x.size) (fun q => by
  rcases q with q | q
  · exact hn (.inl q)
  · rcases h.own j q with r | r
    · exact hn (.inr r)
    · omega)).trans (h.x.block j hj hn)⟩,
  fun j hj => by
   rcases k.own j hj with q | q
   · exact h.own j q
   · exact .inr (Nat.le_trans h.x.size q)⟩
theorem WX.of (h : Ext w w') : WX p bv w bv w' := ⟨ExtQ.of h, fun _ q => .inl q⟩
theorem WX.ext (h : WX p bv w bv' w') (he : Ext w' w2) : WX p bv w bv' w2 := h.trans (WX.of he)
theorem WS.ext (h : WS B p w bv l) (he : Ext w w') : WS B p w' bv l := ⟨h.blk.ext he, h.ob.ext he, h.ne⟩
theorem WX.far (h : WX p bv w bv' w') {q : Nat} (hq : q < w.heap.size) (h1 : q ≠ p) (h2 : bv.ownBlock ≠ some q) : w'.heap[q]? = w.heap[q]? ∧ bv'.ownBlock ≠ some q :=
 ⟨h.x.block q hq (fun e => by rcases e with e | e; exact h1 e; exact h2 e), fun e => by rcases h.own q e with r | r; exact h2 r; omega⟩
theorem WX.old {w0 : World} (h : WX p bv w bv' w') (he : Ext w0 w) (hp : w0.heap.size ≤ p) (ho : OB 5 w0.heap.size w bv l) : Ext w0 w' :=
 he.a4N h.x fun k hk => by
  rcases hk with hk | hk
  · omega
  · exact (ho.own.lt k hk).1
theorem WX.more (h : WX p bv w bv' w') (hW : ExtQ (fun k => k = p ∨ bv'.ownBlock = some k) w' w2) : WX p bv w bv' w2 := h.trans ⟨hW, fun _ q => .inl q⟩
theorem Bx6.far {T : TypeId} {q : Nat} {a0 a1 a2 a3 a4 a5 : Value} (h : Bx6 w q T a0 a1 a2 a3 a4 a5) (hx : WX p bv w bv' w') (h1 : q ≠ p) (h2 : bv.ownBlock ≠ some q) : Bx6 w' q T a0 a1 a2 a3 a4 a5 ∧ bv'.ownBlock ≠ some q :=
 ⟨⟨(hx.far h.b.lt h1 h2).1.trans h.b⟩, (hx.far h.b.lt h1 h2).2⟩
theorem WS.put (h : WS B p w bv l) (ha : Appended w w' B 5 1 bv bv' l.length m.length (l.map a0X) (m.map a0X)) : WS B p (w'.setCell ⟨p, 0, none⟩ bv') bv' (l ++ m) ∧ WX p bv w bv' (w'.setCell ⟨p, 0, none⟩ bv') := by
 have hg : ExtQ (fun k => bv.ownBlock = some k) w w' := ExtQ.grown ha.grown fun k hk => hk
 have hne : bv'.ownBlock ≠ some p := by
  have hlt := h.blk.lt
  rcases ha.at_ with q | q
  · rw [q]; exact h.ne
  rw [q]; intro e; injection e with e; omega
 have hb : Blk w' p 149 #[bv] := h.blk.a0Q hg h.ne;have hs : ExtQ (fun k => k = p) w' (w'.setCell ⟨p, 0, none⟩ bv') := ExtQ.setCell (Q := fun k => k = p) (ExtQ.refl _ _) (p := ⟨p, 0, none⟩) rfl bv'
 refine ⟨⟨hb.a0U 0 bv', ?_, hne⟩, (hg.mono fun k hk => .inr hk).trans (hs.mono fun k hk => .inl hk), fun k hk => ?_⟩
 · have h0 : OB 5 B w' bv' (l ++ m) := OB.app ha.own
   have h1 := a0a h0.own hs (fun k hk e => hne (by rw [hk, e]))
   exact h1
 rcases ha.at_ with q | q
 · rw [q] at hk; exact .inl hk
 rw [q] at hk; injection hk with hk; exact .inr (by omega)
end
attribute [local irreducible] RE OE OB RB a00
theorem a13 (B p : Nat) (bv v : Value) (l : List UInt8) (ns : List Int) (w : World) (hw : WS B p w bv l) (hB : B ≤ w.heap.size) (hst : ∀ W, ExtQ (fun k => k = p ∨ bv.ownBlock = some k) w W → RE W v ns) (hl : ns.length ≤ 1000) (hn : ∀ x ∈ ns, okI x) (hll : l.length ≤ 100000000) :
 Calls Tryz.prog 91 #[.pointer (some ⟨p, 0, none⟩), v] w fun e w' => e = .returned (.tuple #[]) ∧ ∃ bv', WS B p w' bv' (l ++ a0k ns) ∧ WX p bv w bv' w' := by
 obtain ⟨A, c, rfl⟩ := (hst w (ExtQ.refl _ _)).form;have HW := hid hw;have HST := hid hst;have HL := hid hl;have HN := hid (fun (k : Nat) (h : k < ns.length) => hn ns[k] (List.getElem_mem h))
 have HLL := hid (show ∀ k, (l ++ a0k (ns.take k)).length ≤ 100010000 from fun k => by
  have h1 := a1e (ns.take k) fun x hx => hn x (List.mem_of_mem_take hx)
  rw [List.length_append]; rw [List.length_take] at h1; omega)
 have HB := hid hB;clear hw hst hl hn hll hB
 go_enter Tryz.func91, Tryz.ntmps91
 go_wp2
 go_loopw [10] (fun iv wr => ∃ k : Nat, k ≤ ns.length ∧ iv = .int .i64 (k : Int) ∧ ∃ bv', WS B p wr bv' (l ++ a0k (ns.take k)) ∧ WX p bv w bv' wr) (fun iv _ => ns.length - (intOf iv).toNat)
 case atStart => exact ⟨0, Nat.zero_le _, rfl, bv, by rw [show a0k (ns.take 0) = [] from rfl, List.append_nil]; exact HW.o, WX.refl _ _ _⟩
 case round =>
 obtain ⟨k, hk, rfl, b2, hws, hwx⟩ := hrel;have HWS := hid hws;have HWX := hid hwx;have hk1000 : k ≤ 1000 := by have := HL.o; omega
 by_cases hlt : k < ns.length
 · have q1 : (k : Int) < (ns.length : Int) := by omega
   have q0 : 0 ≤ (k : Int) := by omega
   have q1n : k < ns.length := hlt;have HLT := hid hlt;obtain ⟨bI, oI, rfl, z0⟩ := ri1 (HST.o wr hwx.x) hlt;have HS := hid (b3M ns hlt);have HK := hid (HN.o k hlt);have HLK := hid (HLL.o k);generalize ns[k] = x at *;obtain ⟨y, hy⟩ : ∃ y : Nat, x = (y : Int) := ⟨x.toNat, by have := HK.o.1; omega⟩
   subst hy;rw [show ((y : Int)).toNat = y from rfl] at HS;have hy63 : y < 9223372036854775808 := by have := HK.o.2; omega
   have HY := hid hy63;replace HS := hid (show l ++ a0k (ns.take (k + 1)) = (l ++ a0k (ns.take k)) ++ Num.put y by rw [HS.o, List.append_assoc])
   generalize l ++ a0k (ns.take k) = lk at *;clear hws hwx hlt hk hy63
   go_wp2_with fail
   refine (b3P y _ HY.o).mono ?_;rintro e w1 ⟨v1, rfl, ho1, he1⟩;have HO1 := hid ho1;have HW1 := hid (HWS.o.ext he1);have HX1 := hid (HWX.o.ext he1);obtain ⟨A1, c1, rfl⟩ := ho1.form;obtain ⟨A2, c2, rfl⟩ := HWS.o.ob.form;clear ho1 he1 z0;have c0 : w1.cell? ⟨p, 0, none⟩ = some (.slice A2 lk.length c2) := HW1.o.blk.cell 0
   go_wp2_with (at_builtin; refine a0J rfl b09 _ _ _ rfl B _ lk.length (lk.map a0X) rfl HW1.o.ob.own _ (Num.put y).length ((Num.put y).map a0X) rfl HO1.o.rb.rd (a3S _) (by have := HLK.o; have := a1W HY.o; omega) (by have := HLK.o; have := a1W HY.o; unfold maxLen; omega) (Nat.le_trans HB.o HX1.o.x.size) ?_; intro v9 w9 ha9; have HP9 := hid (HW1.o.put ha9); obtain ⟨A9, n9, c9, rfl⟩ : ∃ A n c, v9 = .slice A n c := (by obtain ⟨A, c, h⟩ := HP9.o.1.ob.form; exact ⟨A, _, c, h⟩); have z9 : w9.cell? ⟨p, 0, none⟩ = some (.slice A2 lk.length c2) := (HW1.o.blk.a0Q (ExtQ.grown (Q := fun k => (Value.slice A2 lk.length c2).ownBlock = some k) ha9.grown fun k hk => hk) HW1.o.ne).cell 0; have f9 : w9.frozen? ⟨p, 0, none⟩ = false := (HW1.o.blk.a0Q (ExtQ.grown (Q := fun k => (Value.slice A2 lk.length c2).ownBlock = some k) ha9.grown fun k hk => hk) HW1.o.ne).frozen 0; clear ha9)
   exact ⟨⟨k + 1, HLT.o, by go_num, _, by rw [HS.o]; exact HP9.o.1, HX1.o.trans HP9.o.2⟩, by have := HLT.o; simp [intOf]; omega⟩
 obtain rfl : k = ns.length := by omega
 have q1 : ¬ (ns.length : Int) < (ns.length : Int) := by omega
 rw [List.take_length] at HWS;clear hws hwx hk hlt
 go_wp2
 go_end0
 exact ⟨rfl, _, HWS.o, HWX.o⟩
theorem a36 {p : Nat} {bv : Value} {w : World} {B : Nat} {l : List UInt8} {cs : Array Value} {ns : List Int} (h : WS B p w bv l) (hcs : cs.toList = ns.flatMap fun (x : Int) => [Value.int .i64 x]) (hm : ns.length ≤ 1000) :
 ∀ W, ExtQ (fun k => k = p ∨ bv.ownBlock = some k) (w.alloc (.cells cs 3)) W → RE W (.slice (some ⟨w.heap.size, 0, none⟩) ns.length ns.length) ns := fun W hW => by
 have hs : cs.size = ns.length := by
  have := congrArg List.length hcs;rw [Array.length_toList] at this;rw [this];clear this hcs hm
  induction ns with
  | nil => rfl
  | cons x l ih => rw [List.flatMap_cons, List.length_append, ih, List.length_cons]; simp; omega
 have h0 : OE 3 w.heap.size (w.alloc (.cells cs 3)) (.slice (some ⟨w.heap.size, 0, none⟩) ns.length ns.length) ns := by
  have := World.ownsRow_lit (base := w.heap.size) (e := 3) (size := 1) w cs ns.length (Nat.le_refl _) (by unfold maxLen; omega) (by rw [hs]; omega)
  rw [hcs] at this;exact OE.mk this
 refine (OE.mk (a0a h0.own hW fun k hk q => ?_)).re
 have h1 := (h0.lt hk).1;have h2 := h.blk.lt
 rcases q with q | q
 · omega
 have := (h.ob.own.lt k q).2; omega
theorem a96 : ∀ (d : Nat) (w0 : World) (p e : Nat) (bv v : Value) (l : List UInt8) (ns : List Nd) (w : World), d ≤ 2 → a00 e w0 v ns → Ext w0 w → w0.heap.size ≤ p → WS w0.heap.size p w bv l → b2R d ns → l.length + 20000000 * d ≤ 90000000 →
 Calls Tryz.prog 90 #[.pointer (some ⟨p, 0, none⟩), v] w fun e w' => e = .returned (.tuple #[]) ∧ ∃ bv', WS w0.heap.size p w' bv' (l ++ a38 d ns) ∧ WX p bv w bv' w' := by
 intro d
 induction d with
 | zero =>
  intro w0 p e bv v l ns w hd hv hx hp hw hn hl
  cases hn;obtain ⟨A, c, rfl⟩ : ∃ A c, v = .slice A 0 c := hv.form;have HW := hid (hw.ext ((Ext.refl w).alloc (.cells #[.int .i64 0] 3)));have HST := hid (a36 (cs := #[.int .i64 0]) (ns := [0]) hw rfl (by simp))
  have HBW := hid (show w0.heap.size ≤ (w.alloc (.cells #[.int .i64 0] 3)).heap.size by have := hx.size; simp; omega)
  have HNB := hid (fun h1 h2 h3 => a13 w0.heap.size p bv (.slice (some ⟨w.heap.size, 0, none⟩) 1 1) l [0] (w.alloc (.cells #[.int .i64 0] 3)) h1 h2 h3 (by simp) (by intro x hx; simp at hx; subst hx; unfold okI; omega) (by omega))
  have HX := hid (WX.of (p := p) (bv := bv) ((Ext.refl w).alloc (.cells #[.int .i64 0] 3)));clear hv hx hp hw hl hd
  go_enter Tryz.func90, Tryz.ntmps90
  go_wp2_with fail
  refine (HNB.o HW.o HBW.o HST.o).mono ?_;rintro e w1 ⟨rfl, b1, hw1, hx1⟩;have HW1 := hid hw1;have HX1 := hid (HX.o.trans hx1);clear hw1 hx1
  go_wp2
  go_loopw [13] (fun iv wr => iv = .int .i64 0 ∧ wr = w1) (fun _ _ => 0)
  case atStart => exact ⟨rfl, rfl⟩
  case round =>
  obtain ⟨rfl, rfl⟩ := hrel
  go_wp2
  go_end0
  exact ⟨rfl, _, by rw [show a38 0 [] = a0k [0] by unfold a38 a0k; simp]; exact HW1.o, HX1.o⟩
 | succ d ih =>
 intro w0 p e bv v l ns w hd hv hx hp hw hn hl;obtain ⟨A, c, rfl⟩ := hv.form;have HLN := hid hn.len;have HOB := hid hw.ob;have HW := hid (hw.ext ((Ext.refl w).alloc (.cells #[.int .i64 (ns.length : Int)] 3)));have HST := hid (a36 (cs := #[.int .i64 (ns.length : Int)]) (ns := [(ns.length : Int)]) hw rfl (by simp))
 have HBW := hid (show w0.heap.size ≤ (w.alloc (.cells #[.int .i64 (ns.length : Int)] 3)).heap.size by have := hx.size; simp; omega)
 have HNB := hid (fun h1 h2 h3 => a13 w0.heap.size p bv (.slice (some ⟨w.heap.size, 0, none⟩) 1 1) l [(ns.length : Int)] (w.alloc (.cells #[.int .i64 (ns.length : Int)] 3)) h1 h2 h3 (by simp) (by intro x hx; simp at hx; subst hx; have := hn.len; unfold okI; omega) (by omega))
 have HX := hid (WX.of (p := p) (bv := bv) ((Ext.refl w).alloc (.cells #[.int .i64 (ns.length : Int)] 3)));have HNL := hid (show a0k [(ns.length : Int)] = Num.put ns.length by unfold a0k; simp)
 have HV := hid hv;have HX0 := hid hx;have HP0 := hid hp;have HL := hid hl;have HPW := hid hw.blk.lt;have HN := hid (fun (k : Nat) (h : k < ns.length) => hn.2 ns[k] (List.getElem_mem h))
 have HLL := hid (show ∀ k, k ≤ ns.length → ((l ++ Num.put ns.length) ++ (ns.take k).flatMap (fun n => a4I n ++ a38 d n.body)).length ≤ l.length + 20000000 from fun k hk => by
  have h0 := a1W (n := ns.length) (by have := hn.len; omega)
  have h1 := a5O (fun n => a4I n ++ a38 d n.body) (1000 + b05 d) (ns.take k) (fun n hm => by
   obtain ⟨⟨q1, q2, q3, q4, q5, q6⟩, q7⟩ := hn.2 n (List.mem_of_mem_take hm);have a := a7T q1 q2 q3 q4 q5 q6;have b := a5P q7
   rw [List.length_append]; omega)
  have h2 : (ns.take k).length * (1000 + b05 d) ≤ 100 * (1000 + b05 d) := Nat.mul_le_mul_right _ (by rw [List.length_take]; have := hn.len; omega)
  have h3 := b06 hd;unfold b05 at h3;rw [List.length_append, List.length_append]
  omega)
 have IH := hid (fun w0 p e bv v l ns w => ih w0 p e bv v l ns w (by omega))
 clear hv hx hp hw hl hd hn ih
 go_enter Tryz.func90, Tryz.ntmps90
 go_wp2_with fail
 refine (HNB.o HW.o HBW.o HST.o).mono ?_;rintro e w1 ⟨rfl, b1, hw1, hx1⟩;rw [HNL.o] at hw1;have HW1 := hid hw1;have HX1 := hid (HX.o.trans hx1);clear hw1 hx1
 go_wp2
 go_loopw [13] (fun iv wr => ∃ k : Nat, k ≤ ns.length ∧ iv = .int .i64 (k : Int) ∧ ∃ bv', WS w0.heap.size p wr bv' ((l ++ Num.put ns.length) ++ (ns.take k).flatMap (fun n => a4I n ++ a38 d n.body)) ∧ WX p bv w bv' wr) (fun iv _ => ns.length - (intOf iv).toNat)
 case atStart => exact ⟨0, Nat.zero_le _, rfl, b1, by rw [show (ns.take 0).flatMap (fun n => a4I n ++ a38 d n.body) = [] from rfl, List.append_nil]; exact HW1.o, HX1.o⟩
 case round =>
 obtain ⟨k, hk, rfl, b2, hws, hwx⟩ := hrel;have hk100 : k ≤ 100 := by have := HLN.o; omega
 by_cases hlt : k < ns.length
 · have q1 : (k : Int) < (ns.length : Int) := by omega
   have q0 : 0 ≤ (k : Int) := by omega
   have q1n : k < ns.length := hlt;have HLT := hid hlt;have hold := hwx.old HX0.o HP0.o HOB.o;obtain ⟨bA, oA, u, xb, rfl, e0, e1, e2, e3, e4, e5, hu, hxb⟩ := HV.o.at_ hlt;have e0 := hold.cell e0;have e1 := hold.cell e1;have e2 := hold.cell e2;have e3 := hold.cell e3;have e4 := hold.cell e4;have e5 := hold.cell e5;have HS := hid (ndsL_s d ns hlt);have HK := hid (HN.o k hlt);have HLK := hid (HLL.o (k + 1) hlt);rw [HS.o, ← List.append_assoc] at HLK;generalize ns[k] = x at *;obtain ⟨xop, xins, xkind, xfa, xa, xbody⟩ := x;simp only [Nd.op, Nd.kind, Nd.fa, Nd.a, Nd.ins, Nd.body] at e0 e2 e3 e4 hu hxb;replace HK := hid (show (okI xop ∧ okI xkind ∧ okI xfa ∧ okI xa ∧ xins.length ≤ 100 ∧ ∀ y ∈ xins, okI y) ∧ b2R d xbody from HK.o);replace HS := hid (show (l ++ Num.put ns.length) ++ (ns.take (k + 1)).flatMap (fun n => a4I n ++ a38 d n.body) = ((l ++ Num.put ns.length) ++ (ns.take k).flatMap (fun n => a4I n ++ a38 d n.body)) ++ ((a0k [xop, (xins.length : Int)] ++ (a0k xins ++ a0k [xkind, xfa, xa])) ++ a38 d xbody) by rw [HS.o, ← List.append_assoc]; rfl)
   replace HLK := hid (show (((l ++ Num.put ns.length) ++ (ns.take k).flatMap (fun n => a4I n ++ a38 d n.body)) ++ ((a0k [xop, (xins.length : Int)] ++ (a0k xins ++ a0k [xkind, xfa, xa])) ++ a38 d xbody)).length ≤ l.length + 20000000 from HLK.o)
   generalize (l ++ Num.put ns.length) ++ (ns.take k).flatMap (fun n => a4I n ++ a38 d n.body) = lk at *
   replace HLK := hid (show lk.length + (a0k [xop, (xins.length : Int)]).length + (a0k xins).length + (a0k [xkind, xfa, xa]).length ≤ l.length + 20000000 by have := HLK.o; simp only [List.length_append] at this; omega)
   have HU := hid hu;have HXB := hid hxb;obtain ⟨Au, cu, rfl⟩ := hu.form;obtain ⟨Ab, cb, rfl⟩ := hxb.form;have hxn := (Ext.refl wr).alloc (a0i xop xkind xfa xa (.slice Au xins.length cu) (.slice Ab xbody.length cb));have HWSN := hid (hws.ext hxn);have HWXN := hid (hwx.ext hxn);have HNB0 := hid (Bx6.new wr 101 (.int .i64 xop) (.slice Au xins.length cu) (.int .i64 xkind) (.int .i64 xfa) (.int .i64 xa) (.slice Ab xbody.length cb));have HNE := hid (show wr.heap.size ≠ p ∧ b2.ownBlock ≠ some wr.heap.size from ⟨fun q => by have := hws.blk.lt; omega, fun q => by have := (hws.ob.own.lt _ q).2; omega⟩)
   clear hws hwx hu hxb hxn hlt hk
   go_upto_region 4 with fail
   clear e0 e1 e2 e3 e4 e5 hold;generalize wr.heap.size = q at *;generalize wr.alloc (a0i xop xkind xfa xa (.slice Au xins.length cu) (.slice Ab xbody.length cb)) = wn at *;obtain ⟨y0, y1, y2, y3, y4, y5⟩ := HNB0.o.at_;have hal := (Ext.refl wn).alloc (.cells #[.int .i64 xop, .int .i64 (xins.length : Int)] 3);have HC4 := hid (a13 w0.heap.size p b2 (.slice (some ⟨wn.heap.size, 0, none⟩) 2 2) lk [xop, (xins.length : Int)] _ (HWSN.o.ext hal) (by have h1 := HWXN.o.x.size; have h2 := HX0.o.size; have h3 := hal.size; omega) (a36 (cs := #[.int .i64 xop, .int .i64 (xins.length : Int)]) (ns := [xop, (xins.length : Int)]) HWSN.o rfl (by simp)) (by simp) (by intro z hz; simp at hz; rcases hz with rfl | rfl; exact HK.o.1.1; have := HK.o.1.2.2.2.2.1; unfold okI; omega) (by have h1 := HLK.o; have h2 := HL.o; omega))
   have HXA4 := hid (HWXN.o.ext hal);have HBA4 := hid (HNB0.o.ext hal);clear hal
   go_wp2_with fail
   refine HC4.o.mono ?_;rintro e w4 ⟨rfl, b4, hw4, hx4⟩;have HB4 := hid (Bx6.far HBA4.o hx4 HNE.o.1 HNE.o.2);have HW4 := hid hw4;have HX4 := hid (HXA4.o.trans hx4);clear hw4 hx4 y0 y1 y2 y3 y4 y5;obtain ⟨y0, y1, y2, y3, y4, y5⟩ := HB4.o.1.at_;have HC5 := hid (a13 w0.heap.size p b4 (.slice Au xins.length cu) _ xins w4 HW4.o (by have h1 := HX4.o.x.size; have h2 := HX0.o.size; omega) (fun W hW => RE.ext HU.o ((HX4.o.more hW).old HX0.o HP0.o HOB.o)) (by have := HK.o.1.2.2.2.2.1; omega) HK.o.1.2.2.2.2.2 (by have h1 := HLK.o; have h2 := HL.o; rw [List.length_append]; omega))
   go_wp2_with fail
   refine HC5.o.mono ?_;rintro e w5 ⟨rfl, b5, hw5, hx5⟩;have HB5 := hid (Bx6.far HB4.o.1 hx5 HNE.o.1 HB4.o.2);have HW5 := hid hw5;have HX5 := hid (HX4.o.trans hx5);clear hw5 hx5 y0 y1 y2 y3 y4 y5;obtain ⟨y0, y1, y2, y3, y4, y5⟩ := HB5.o.1.at_;have hal := (Ext.refl w5).alloc (.cells #[.int .i64 xkind, .int .i64 xfa, .int .i64 xa] 3);have HC6 := hid (a13 w0.heap.size p b5 (.slice (some ⟨w5.heap.size, 0, none⟩) 3 3) _ [xkind, xfa, xa] _ (HW5.o.ext hal) (by have h1 := HX5.o.x.size; have h2 := HX0.o.size; have h3 := hal.size; omega) (a36 (cs := #[.int .i64 xkind, .int .i64 xfa, .int .i64 xa]) (ns := [xkind, xfa, xa]) HW5.o rfl (by simp)) (by simp) (by intro z hz; simp at hz; rcases hz with rfl | rfl | rfl; exact HK.o.1.2.1; exact HK.o.1.2.2.1; exact HK.o.1.2.2.2.1) (by have h1 := HLK.o; have h2 := HL.o; rw [List.length_append, List.length_append]; omega))
   have HXA6 := hid (HX5.o.ext hal);have HBA6 := hid (HB5.o.1.ext hal);clear hal
   go_wp2_with fail
   refine HC6.o.mono ?_;rintro e w6 ⟨rfl, b6, hw6, hx6⟩;have HB6 := hid (Bx6.far HBA6.o hx6 HNE.o.1 HB5.o.2);have HW6 := hid hw6;have HX6 := hid (HXA6.o.trans hx6);clear hw6 hx6 y0 y1 y2 y3 y4 y5;obtain ⟨y0, y1, y2, y3, y4, y5⟩ := HB6.o.1.at_;have HC7 := hid (IH.o w0 p _ b6 (.slice Ab xbody.length cb) _ xbody w6 HXB.o (HX6.o.old HX0.o HP0.o HOB.o) HP0.o HW6.o HK.o.2 (by have h1 := HLK.o; have h2 := HL.o; rw [List.length_append, List.length_append, List.length_append]; omega))
   go_wp2_with fail
   refine HC7.o.mono ?_;rintro e w7 ⟨rfl, b7, hw7, hx7⟩;have HW7 := hid hw7;have HX7 := hid (HX6.o.trans hx7);clear hw7 hx7 y0 y1 y2 y3 y4 y5
   go_wp2
   exact ⟨⟨k + 1, HLT.o, by go_num, _, by rw [HS.o]; simpa only [List.append_assoc] using HW7.o, HX7.o⟩, by have := HLT.o; simp [intOf]; omega⟩
 obtain rfl : k = ns.length := by omega
 have q1 : ¬ (ns.length : Int) < (ns.length : Int) := by omega
 rw [List.take_length, List.append_assoc] at hws;have HWS := hid hws;have HWX := hid hwx;clear hws hwx hk hlt
 go_wp2
 go_end0
 exact ⟨rfl, _, HWS.o, HWX.o⟩
theorem b14 (d : Nat) (v : Value) (l : List Nd) (out : Int) (w : World) (hv : a00 d w v l) (hok : gOk (l, out) = true) (hpn : b2R 2 l) (ho : okI out) :
 Calls Tryz.prog 57 #[gAg v out] w fun e w' => ∃ u, e = .returned (.tuple #[u, .int .i64 0]) ∧ OB 5 w.heap.size w' u (grL (l, out)) ∧ Ext w w' := by
 obtain ⟨A, c, rfl⟩ := hv.form;have HX0 := hid ((Ext.refl w).alloc (gCs (.slice A l.length c) out));have HB0 := hid (Blk.new w 24 #[.slice A l.length c, .int .i64 out]);have HV := hid (hv.ext HX0.o);have HCK := hid (a0C d (.slice A l.length c) l out _ HV.o);rw [show gE (l, out) = 0 from by unfold gE; rw [hok]; rfl] at HCK
 have HPN := hid hpn;have HO := hid ho;clear hv hok hpn ho
 go_enter Tryz.func57, Tryz.ntmps57
 go_upto_region 1 with fail
 generalize w.heap.size = q at *;generalize w.alloc (gCs (.slice A l.length c) out) = w0 at *;have c0 := HB0.o.c0;have c1 := HB0.o.c1
 go_wp2_with fail
 refine HCK.o.mono ?_;rintro e w1 ⟨rfl, he1⟩;have HX1 := hid (HX0.o.trans he1);have HV1 := hid (HV.o.ext he1);have HB1 := hid (HB0.o.ext he1);have hal := (Ext.refl w1).alloc (.cells #[.slice none 0 0] 149);have HW2 := hid (show WS w1.heap.size w1.heap.size (w1.alloc (.cells #[.slice none 0 0] 149)) (.slice none 0 0) [] from ⟨Blk.new _ _ _, OB.nilO _ _ _, by simp [Value.ownBlock]⟩)
 have HB2 := hid (HB1.o.ext hal);have HAL := hid hal;have HN2 := hid (a96 2 w1 w1.heap.size d (.slice none 0 0) (.slice A l.length c) [] l _ (Nat.le_refl _) HV1.o HAL.o (Nat.le_refl _) HW2.o HPN.o (by simp))
 clear he1 hal c0 c1;have c0 : (w1.alloc (.cells #[.slice none 0 0] 149)).cell? ⟨q, 0, none⟩ = some (.slice A l.length c) := HB2.o.cell 0
 go_wp2_with fail
 refine HN2.o.mono ?_;rintro e w3 ⟨rfl, b3, hw3, hx3⟩;rw [List.nil_append] at hw3;have HW3 := hid hw3;have HX3 := hid hx3;have HE3 := hid (hx3.old HAL.o (Nat.le_refl _) HW2.o.ob);have HB3 := hid (HB1.o.ext HE3.o);have hal3 := (Ext.refl w3).alloc (.cells #[.int .i64 out] 3);have c1 := HB3.o.c1;have HC4 := hid (a13 w1.heap.size w1.heap.size b3 (.slice (some ⟨w3.heap.size, 0, none⟩) 1 1) _ [out] _ (HW3.o.ext hal3) (Nat.le_trans HE3.o.size hal3.size) (a36 (cs := #[.int .i64 out]) (ns := [out]) HW3.o rfl (by simp)) (by simp) (by intro z hz; simp at hz; subst hz; exact HO.o) (by have h1 := a5P HPN.o; have h2 := b06 (d := 2) (Nat.le_refl _); omega))
 have HX3a := hid (HX3.o.ext hal3);clear hw3 hx3 hal3 c0
 go_wp2_with fail
 refine HC4.o.mono ?_;rintro e w4 ⟨rfl, b4, hw4, hx4⟩;rw [show a0k [out] = Num.put out.toNat by unfold a0k; simp] at hw4
 have HW4 := hid hw4;have HE4 := hid ((HX3a.o.trans hx4).old HAL.o (Nat.le_refl _) HW2.o.ob);obtain ⟨A4, n4, c4, hb4⟩ : ∃ A n c, b4 = .slice A n c := by obtain ⟨A, c, h⟩ := hw4.ob.form; exact ⟨A, _, c, h⟩
 subst hb4;have d0 : w4.cell? ⟨w1.heap.size, 0, none⟩ = some (.slice A4 n4 c4) := hw4.blk.cell 0;clear hw4 hx4 c1
 go_wp2
 go_ret2
 exact ⟨_, rfl, HW4.o.ob.low HX1.o.size, HX1.o.trans HE4.o⟩
end Go.Proofs.YtdkejfjcchlnpaaGreat
