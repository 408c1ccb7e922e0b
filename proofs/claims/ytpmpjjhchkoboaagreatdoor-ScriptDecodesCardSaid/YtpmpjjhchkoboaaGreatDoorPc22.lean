/-
  GrPut, ScrIdx, packed: what the claim needs of them.
-/
import Derived.Test.YtpmpjjhchkoboaaGreatDoorPc10
import Derived.Test.YtpmpjjhchkoboaaGreatDoorPc08
import Derived.Test.YtpmpjjhchkoboaaGreatDoorPc11
import Derived.Test.YtpmpjjhchkoboaaGreatDoorPc21
open Go.Lib (hid)
set_option linter.unusedSimpArgs false
set_option linter.unusedVariables false
set_option maxRecDepth 100000
namespace Go.Proofs.YtpmpjjhchkoboaaGreatDoor
open Go.RowKit Go.Ox Go.Ox.Gr
structure WS (B p : Nat) (w : World) (bv : Value) (l : List UInt8) : Prop where
 blk : Blk w p 116 #[bv]
 ob : OB 5 B w bv l
 ne : bv.ownBlock ≠ some p
structure WX (p : Nat) (bv : Value) (w : World) (bv' : Value) (w' : World) : Prop where
 x : ExtQ (fun k => k = p ∨ bv.ownBlock = some k) w w'
 own : ∀ k, bv'.ownBlock = some k → bv.ownBlock = some k ∨ w.heap.size ≤ k
section
variable {B p : Nat} {w w' w2 : World} {bv bv' bv2 : Value} {l m : List UInt8}
theorem WX.refl (p : Nat) (bv : Value) (w : World) : WX p bv w bv w := ⟨ExtQ.refl _ _, fun _ h => .inl h⟩
theorem WX.trans (h : WX p bv w bv' w') (k : WX p bv' w' bv2 w2) : WX p bv w bv2 w2 :=
 ⟨⟨k.x.os.trans h.x.os, k.x.tape.trans h.x.tape, k.x.output.trans h.x.output, Nat.le_trans h.x.size k.x.size, fun j hj hn => (k.x.block j (Nat.lt_of_lt_of_le hj h.x.size) (fun q => by
  rcases q with q | q
  · exact hn (.inl q)
  · rcases h.own j q with r | r
    · exact hn (.inr r)
    · omega)).trans (h.x.block j hj hn)⟩,
  fun j hj => by
   rcases k.own j hj with q | q
   · exact h.own j q
   · exact .inr (Nat.le_trans h.x.size q)⟩
theorem WX.of (h : Ext w w') : WX p bv w bv w' := ⟨ExtQ.of h, fun _ q => .inl q⟩
theorem WX.ext (h : WX p bv w bv' w') (he : Ext w' w2) : WX p bv w bv' w2 := h.trans (WX.of he)
theorem WS.ext (h : WS B p w bv l) (he : Ext w w') : WS B p w' bv l := ⟨h.blk.ext he, h.ob.ext he, h.ne⟩
theorem WX.far (h : WX p bv w bv' w') {q : Nat} (hq : q < w.heap.size) (h1 : q ≠ p) (h2 : bv.ownBlock ≠ some q) : w'.heap[q]? = w.heap[q]? ∧ bv'.ownBlock ≠ some q :=
 ⟨h.x.block q hq (fun e => by rcases e with e | e; exact h1 e; exact h2 e), fun e => by rcases h.own q e with r | r; exact h2 r; omega⟩
theorem WX.old {w0 : World} (h : WX p bv w bv' w') (he : Ext w0 w) (hp : w0.heap.size ≤ p) (ho : OB 5 w0.heap.size w bv l) : Ext w0 w' :=
 he.andQ h.x fun k hk => by
  rcases hk with hk | hk
  · omega
  · exact (ho.own.lt k hk).1
theorem WX.more (h : WX p bv w bv' w') (hW : ExtQ (fun k => k = p ∨ bv'.ownBlock = some k) w' w2) : WX p bv w bv' w2 := h.trans ⟨hW, fun _ q => .inl q⟩
theorem Bx6.far {T : TypeId} {q : Nat} {a0 a1 a2 a3 a4 a5 : Value} (h : Bx6 w q T a0 a1 a2 a3 a4 a5) (hx : WX p bv w bv' w') (h1 : q ≠ p) (h2 : bv.ownBlock ≠ some q) : Bx6 w' q T a0 a1 a2 a3 a4 a5 ∧ bv'.ownBlock ≠ some q :=
 ⟨⟨(hx.far h.b.lt h1 h2).1.trans h.b⟩, (hx.far h.b.lt h1 h2).2⟩
theorem WS.put (h : WS B p w bv l) (ha : Appended w w' B 5 1 bv bv' l.length m.length (l.map byteV) (m.map byteV)) : WS B p (w'.setCell ⟨p, 0, none⟩ bv') bv' (l ++ m) ∧ WX p bv w bv' (w'.setCell ⟨p, 0, none⟩ bv') := by
 have hg : ExtQ (fun k => bv.ownBlock = some k) w w' := ExtQ.grown ha.grown fun k hk => hk
 have hne : bv'.ownBlock ≠ some p := by
  have hlt := h.blk.lt
  rcases ha.at_ with q | q
  · rw [q]; exact h.ne
  · rw [q]; intro e; injection e with e; omega
 have hb : Blk w' p 116 #[bv] := h.blk.extQ hg h.ne
 have hs : ExtQ (fun k => k = p) w' (w'.setCell ⟨p, 0, none⟩ bv') := ExtQ.setCell (Q := fun k => k = p) (ExtQ.refl _ _) (p := ⟨p, 0, none⟩) rfl bv'
 refine ⟨⟨hb.set_ 0 bv', ?_, hne⟩, (hg.mono fun k hk => .inr hk).trans (hs.mono fun k hk => .inl hk), fun k hk => ?_⟩
 · have h0 : OB 5 B w' bv' (l ++ m) := OB.app ha.own
   have h1 := ownsRow_extQ h0.own hs (fun k hk e => hne (by rw [hk, e]))
   exact h1
 · rcases ha.at_ with q | q
   · rw [q] at hk; exact .inl hk
   · rw [q] at hk; injection hk with hk; exact .inr (by omega)
end
attribute [local irreducible] RE OE OB RB NodesR
set_option maxHeartbeats 4000000 in
theorem numbers_any (B p : Nat) (bv v : Value) (l : List UInt8) (ns : List Int) (w : World) (hw : WS B p w bv l) (hB : B ≤ w.heap.size) (hst : ∀ W, ExtQ (fun k => k = p ∨ bv.ownBlock = some k) w W → RE W v ns) (hl : ns.length ≤ 1000) (hn : ∀ x ∈ ns, okI x) (hll : l.length ≤ 100000000) :
 Calls Tryz.prog 71 #[.pointer (some ⟨p, 0, none⟩), v] w fun e w' => e = .returned (.tuple #[]) ∧ ∃ bv', WS B p w' bv' (l ++ numsL ns) ∧ WX p bv w bv' w' := by
 obtain ⟨A, c, rfl⟩ := (hst w (ExtQ.refl _ _)).form
 have HW := hid hw
 have HST := hid hst
 have HL := hid hl
 have HN := hid (fun (k : Nat) (h : k < ns.length) => hn ns[k] (List.getElem_mem h))
 have HLL := hid (show ∀ k, (l ++ numsL (ns.take k)).length ≤ 100010000 from fun k => by
  have h1 := numsL_len (ns.take k) fun x hx => hn x (List.mem_of_mem_take hx)
  rw [List.length_append]; rw [List.length_take] at h1; omega)
 have HB := hid hB
 clear hw hst hl hn hll hB
 go_enter Tryz.func71, Tryz.ntmps71
 go_wp2
 go_loopw [10] (fun iv wr => ∃ k : Nat, k ≤ ns.length ∧ iv = .int .i64 (k : Int) ∧ ∃ bv', WS B p wr bv' (l ++ numsL (ns.take k)) ∧ WX p bv w bv' wr) (fun iv _ => ns.length - (intOf iv).toNat)
 case atStart => exact ⟨0, Nat.zero_le _, rfl, bv, by rw [show numsL (ns.take 0) = [] from rfl, List.append_nil]; exact HW.out, WX.refl _ _ _⟩
 case round =>
  obtain ⟨k, hk, rfl, b2, hws, hwx⟩ := hrel
  have HWS := hid hws
  have HWX := hid hwx
  have hk1000 : k ≤ 1000 := by have := HL.out; omega
  by_cases hlt : k < ns.length
  · have q1 : (k : Int) < (ns.length : Int) := by omega
    have q0 : 0 ≤ (k : Int) := by omega
    have q1n : k < ns.length := hlt
    have HLT := hid hlt
    obtain ⟨bI, oI, rfl, z0⟩ := ri1 (HST.out wr hwx.x) hlt
    have HS := hid (numsL_s ns hlt)
    have HK := hid (HN.out k hlt)
    have HLK := hid (HLL.out k)
    generalize ns[k] = x at *
    obtain ⟨y, hy⟩ : ∃ y : Nat, x = (y : Int) := ⟨x.toNat, by have := HK.out.1; omega⟩
    subst hy
    rw [show ((y : Int)).toNat = y from rfl] at HS
    have hy63 : y < 9223372036854775808 := by have := HK.out.2; omega
    have HY := hid hy63
    replace HS := hid (show l ++ numsL (ns.take (k + 1)) = (l ++ numsL (ns.take k)) ++ Num.put y by rw [HS.out, List.append_assoc])
    generalize l ++ numsL (ns.take k) = lk at *
    clear hws hwx hlt hk hy63
    go_wp2_with fail
    refine (put_any y _ HY.out).mono ?_
    rintro e w1 ⟨v1, rfl, ho1, he1⟩
    have HO1 := hid ho1
    have HW1 := hid (HWS.out.ext he1)
    have HX1 := hid (HWX.out.ext he1)
    obtain ⟨A1, c1, rfl⟩ := ho1.form
    obtain ⟨A2, c2, rfl⟩ := HWS.out.ob.form
    clear ho1 he1 z0
    have c0 : w1.cell? ⟨p, 0, none⟩ = some (.slice A2 lk.length c2) := HW1.out.blk.cell 0
    go_wp2_with (at_builtin; refine wpList_app rfl elemB _ _ _ rfl B _ lk.length (lk.map byteV) rfl HW1.out.ob.own _ (Num.put y).length ((Num.put y).map byteV) rfl HO1.out.rb.rd (one_byteV _) (by have := HLK.out; have := put_le9 HY.out; omega) (by have := HLK.out; have := put_le9 HY.out; unfold maxLen; omega) (Nat.le_trans HB.out HX1.out.x.size) ?_; intro v9 w9 ha9; have HP9 := hid (HW1.out.put ha9); obtain ⟨A9, n9, c9, rfl⟩ : ∃ A n c, v9 = .slice A n c := (by obtain ⟨A, c, h⟩ := HP9.out.1.ob.form; exact ⟨A, _, c, h⟩); have z9 : w9.cell? ⟨p, 0, none⟩ = some (.slice A2 lk.length c2) := (HW1.out.blk.extQ (ExtQ.grown (Q := fun k => (Value.slice A2 lk.length c2).ownBlock = some k) ha9.grown fun k hk => hk) HW1.out.ne).cell 0; have f9 : w9.frozen? ⟨p, 0, none⟩ = false := (HW1.out.blk.extQ (ExtQ.grown (Q := fun k => (Value.slice A2 lk.length c2).ownBlock = some k) ha9.grown fun k hk => hk) HW1.out.ne).frozen 0; clear ha9)
    exact ⟨⟨k + 1, HLT.out, by go_num, _, by rw [HS.out]; exact HP9.out.1, HX1.out.trans HP9.out.2⟩, by have := HLT.out; simp [intOf]; omega⟩
  · obtain rfl : k = ns.length := by omega
    have q1 : ¬ (ns.length : Int) < (ns.length : Int) := by omega
    rw [List.take_length] at HWS
    clear hws hwx hk hlt
    go_wp2
    go_end0
    exact ⟨rfl, _, HWS.out, HWX.out⟩
theorem lit_stab {p : Nat} {bv : Value} {w : World} {B : Nat} {l : List UInt8} {cs : Array Value} {ns : List Int} (h : WS B p w bv l) (hcs : cs.toList = ns.flatMap fun (x : Int) => [Value.int .i64 x]) (hm : ns.length ≤ 1000) :
 ∀ W, ExtQ (fun k => k = p ∨ bv.ownBlock = some k) (w.alloc (.cells cs 3)) W → RE W (.slice (some ⟨w.heap.size, 0, none⟩) ns.length ns.length) ns := fun W hW => by
 have hs : cs.size = ns.length := by
  have := congrArg List.length hcs
  rw [Array.length_toList] at this
  rw [this]
  clear this hcs hm
  induction ns with
  | nil => rfl
  | cons x l ih => rw [List.flatMap_cons, List.length_append, ih, List.length_cons]; simp; omega
 have h0 : OE 3 w.heap.size (w.alloc (.cells cs 3)) (.slice (some ⟨w.heap.size, 0, none⟩) ns.length ns.length) ns := by
  have := World.ownsRow_lit (base := w.heap.size) (e := 3) (size := 1) w cs ns.length (Nat.le_refl _) (by unfold maxLen; omega) (by rw [hs]; omega)
  rw [hcs] at this
  exact OE.mk this
 refine (OE.mk (ownsRow_extQ h0.own hW fun k hk q => ?_)).re
 have h1 := (h0.lt hk).1
 have h2 := h.blk.lt
 rcases q with q | q
 · omega
 · have := (h.ob.own.lt k q).2; omega
set_option maxHeartbeats 8000000 in
theorem wnodes_any : ∀ (d : Nat) (w0 : World) (p e : Nat) (bv v : Value) (l : List UInt8) (ns : List Nd) (w : World), d ≤ 2 → NodesR e w0 v ns → Ext w0 w → w0.heap.size ≤ p → WS w0.heap.size p w bv l → PutN d ns → l.length + 20000000 * d ≤ 90000000 →
 Calls Tryz.prog 70 #[.pointer (some ⟨p, 0, none⟩), v] w fun e w' => e = .returned (.tuple #[]) ∧ ∃ bv', WS w0.heap.size p w' bv' (l ++ ndsL d ns) ∧ WX p bv w bv' w' := by
 intro d
 induction d with
 | zero =>
  intro w0 p e bv v l ns w hd hv hx hp hw hn hl
  cases hn
  obtain ⟨A, c, rfl⟩ : ∃ A c, v = .slice A 0 c := hv.form
  have HW := hid (hw.ext ((Ext.refl w).alloc (.cells #[.int .i64 0] 3)))
  have HST := hid (lit_stab (cs := #[.int .i64 0]) (ns := [0]) hw rfl (by simp))
  have HBW := hid (show w0.heap.size ≤ (w.alloc (.cells #[.int .i64 0] 3)).heap.size by have := hx.size; simp; omega)
  have HNB := hid (fun h1 h2 h3 => numbers_any w0.heap.size p bv (.slice (some ⟨w.heap.size, 0, none⟩) 1 1) l [0] (w.alloc (.cells #[.int .i64 0] 3)) h1 h2 h3 (by simp) (by intro x hx; simp at hx; subst hx; unfold okI; omega) (by omega))
  have HX := hid (WX.of (p := p) (bv := bv) ((Ext.refl w).alloc (.cells #[.int .i64 0] 3)))
  clear hv hx hp hw hl hd
  go_enter Tryz.func70, Tryz.ntmps70
  go_wp2_with fail
  refine (HNB.out HW.out HBW.out HST.out).mono ?_
  rintro e w1 ⟨rfl, b1, hw1, hx1⟩
  have HW1 := hid hw1
  have HX1 := hid (HX.out.trans hx1)
  clear hw1 hx1
  go_wp2
  go_loopw [13] (fun iv wr => iv = .int .i64 0 ∧ wr = w1) (fun _ _ => 0)
  case atStart => exact ⟨rfl, rfl⟩
  case round =>
   obtain ⟨rfl, rfl⟩ := hrel
   go_wp2
   go_end0
   exact ⟨rfl, _, by rw [show ndsL 0 [] = numsL [0] by unfold ndsL numsL; simp]; exact HW1.out, HX1.out⟩
 | succ d ih =>
  intro w0 p e bv v l ns w hd hv hx hp hw hn hl
  obtain ⟨A, c, rfl⟩ := hv.form
  have HLN := hid hn.len
  have HOB := hid hw.ob
  have HW := hid (hw.ext ((Ext.refl w).alloc (.cells #[.int .i64 (ns.length : Int)] 3)))
  have HST := hid (lit_stab (cs := #[.int .i64 (ns.length : Int)]) (ns := [(ns.length : Int)]) hw rfl (by simp))
  have HBW := hid (show w0.heap.size ≤ (w.alloc (.cells #[.int .i64 (ns.length : Int)] 3)).heap.size by have := hx.size; simp; omega)
  have HNB := hid (fun h1 h2 h3 => numbers_any w0.heap.size p bv (.slice (some ⟨w.heap.size, 0, none⟩) 1 1) l [(ns.length : Int)] (w.alloc (.cells #[.int .i64 (ns.length : Int)] 3)) h1 h2 h3 (by simp) (by intro x hx; simp at hx; subst hx; have := hn.len; unfold okI; omega) (by omega))
  have HX := hid (WX.of (p := p) (bv := bv) ((Ext.refl w).alloc (.cells #[.int .i64 (ns.length : Int)] 3)))
  have HNL := hid (show numsL [(ns.length : Int)] = Num.put ns.length by unfold numsL; simp)
  have HV := hid hv
  have HX0 := hid hx
  have HP0 := hid hp
  have HL := hid hl
  have HPW := hid hw.blk.lt
  have HN := hid (fun (k : Nat) (h : k < ns.length) => hn.2 ns[k] (List.getElem_mem h))
  have HLL := hid (show ∀ k, k ≤ ns.length → ((l ++ Num.put ns.length) ++ (ns.take k).flatMap (fun n => hdrL n ++ ndsL d n.body)).length ≤ l.length + 20000000 from fun k hk => by
   have h0 := put_le9 (n := ns.length) (by have := hn.len; omega)
   have h1 := flat_le (fun n => hdrL n ++ ndsL d n.body) (1000 + capL d) (ns.take k) (fun n hm => by
    obtain ⟨⟨q1, q2, q3, q4, q5, q6⟩, q7⟩ := hn.2 n (List.mem_of_mem_take hm)
    have a := hdrL_len q1 q2 q3 q4 q5 q6
    have b := ndsL_len q7
    rw [List.length_append]; omega)
   have h2 : (ns.take k).length * (1000 + capL d) ≤ 100 * (1000 + capL d) := Nat.mul_le_mul_right _ (by rw [List.length_take]; have := hn.len; omega)
   have h3 := capL_le hd
   unfold capL at h3
   rw [List.length_append, List.length_append]
   omega)
  have IH := hid (fun w0 p e bv v l ns w => ih w0 p e bv v l ns w (by omega))
  clear hv hx hp hw hl hd hn ih
  go_enter Tryz.func70, Tryz.ntmps70
  go_wp2_with fail
  refine (HNB.out HW.out HBW.out HST.out).mono ?_
  rintro e w1 ⟨rfl, b1, hw1, hx1⟩
  rw [HNL.out] at hw1
  have HW1 := hid hw1
  have HX1 := hid (HX.out.trans hx1)
  clear hw1 hx1
  go_wp2
  go_loopw [13] (fun iv wr => ∃ k : Nat, k ≤ ns.length ∧ iv = .int .i64 (k : Int) ∧ ∃ bv', WS w0.heap.size p wr bv' ((l ++ Num.put ns.length) ++ (ns.take k).flatMap (fun n => hdrL n ++ ndsL d n.body)) ∧ WX p bv w bv' wr) (fun iv _ => ns.length - (intOf iv).toNat)
  case atStart => exact ⟨0, Nat.zero_le _, rfl, b1, by rw [show (ns.take 0).flatMap (fun n => hdrL n ++ ndsL d n.body) = [] from rfl, List.append_nil]; exact HW1.out, HX1.out⟩
  case round =>
   obtain ⟨k, hk, rfl, b2, hws, hwx⟩ := hrel
   have hk100 : k ≤ 100 := by have := HLN.out; omega
   by_cases hlt : k < ns.length
   · have q1 : (k : Int) < (ns.length : Int) := by omega
     have q0 : 0 ≤ (k : Int) := by omega
     have q1n : k < ns.length := hlt
     have HLT := hid hlt
     have hold := hwx.old HX0.out HP0.out HOB.out
     obtain ⟨bA, oA, u, xb, rfl, e0, e1, e2, e3, e4, e5, hu, hxb⟩ := HV.out.at_ hlt
     have e0 := hold.cell e0
     have e1 := hold.cell e1
     have e2 := hold.cell e2
     have e3 := hold.cell e3
     have e4 := hold.cell e4
     have e5 := hold.cell e5
     have HS := hid (ndsL_s d ns hlt)
     have HK := hid (HN.out k hlt)
     have HLK := hid (HLL.out (k + 1) hlt)
     rw [HS.out, ← List.append_assoc] at HLK
     generalize ns[k] = x at *
     obtain ⟨xop, xins, xkind, xfa, xa, xbody⟩ := x
     simp only [Nd.op, Nd.kind, Nd.fa, Nd.a, Nd.ins, Nd.body] at e0 e2 e3 e4 hu hxb
     replace HK := hid (show (okI xop ∧ okI xkind ∧ okI xfa ∧ okI xa ∧ xins.length ≤ 100 ∧ ∀ y ∈ xins, okI y) ∧ PutN d xbody from HK.out)
     replace HS := hid (show (l ++ Num.put ns.length) ++ (ns.take (k + 1)).flatMap (fun n => hdrL n ++ ndsL d n.body) = ((l ++ Num.put ns.length) ++ (ns.take k).flatMap (fun n => hdrL n ++ ndsL d n.body)) ++ ((numsL [xop, (xins.length : Int)] ++ (numsL xins ++ numsL [xkind, xfa, xa])) ++ ndsL d xbody) by rw [HS.out, ← List.append_assoc]; rfl)
     replace HLK := hid (show (((l ++ Num.put ns.length) ++ (ns.take k).flatMap (fun n => hdrL n ++ ndsL d n.body)) ++ ((numsL [xop, (xins.length : Int)] ++ (numsL xins ++ numsL [xkind, xfa, xa])) ++ ndsL d xbody)).length ≤ l.length + 20000000 from HLK.out)
     generalize (l ++ Num.put ns.length) ++ (ns.take k).flatMap (fun n => hdrL n ++ ndsL d n.body) = lk at *
     replace HLK := hid (show lk.length + (numsL [xop, (xins.length : Int)]).length + (numsL xins).length + (numsL [xkind, xfa, xa]).length ≤ l.length + 20000000 by have := HLK.out; simp only [List.length_append] at this; omega)
     have HU := hid hu
     have HXB := hid hxb
     obtain ⟨Au, cu, rfl⟩ := hu.form
     obtain ⟨Ab, cb, rfl⟩ := hxb.form
     have hxn := (Ext.refl wr).alloc (ndCs xop xkind xfa xa (.slice Au xins.length cu) (.slice Ab xbody.length cb))
     have HWSN := hid (hws.ext hxn)
     have HWXN := hid (hwx.ext hxn)
     have HNB0 := hid (Bx6.new wr 112 (.int .i64 xop) (.slice Au xins.length cu) (.int .i64 xkind) (.int .i64 xfa) (.int .i64 xa) (.slice Ab xbody.length cb))
     have HNE := hid (show wr.heap.size ≠ p ∧ b2.ownBlock ≠ some wr.heap.size from ⟨fun q => by have := hws.blk.lt; omega, fun q => by have := (hws.ob.own.lt _ q).2; omega⟩)
     clear hws hwx hu hxb hxn hlt hk
     go_upto_region 4 with fail
     clear e0 e1 e2 e3 e4 e5 hold
     generalize wr.heap.size = q at *
     generalize wr.alloc (ndCs xop xkind xfa xa (.slice Au xins.length cu) (.slice Ab xbody.length cb)) = wn at *
     obtain ⟨y0, y1, y2, y3, y4, y5⟩ := HNB0.out.at_
     have hal := (Ext.refl wn).alloc (.cells #[.int .i64 xop, .int .i64 (xins.length : Int)] 3)
     have HC4 := hid (numbers_any w0.heap.size p b2 (.slice (some ⟨wn.heap.size, 0, none⟩) 2 2) lk [xop, (xins.length : Int)] _ (HWSN.out.ext hal) (by have h1 := HWXN.out.x.size; have h2 := HX0.out.size; have h3 := hal.size; omega) (lit_stab (cs := #[.int .i64 xop, .int .i64 (xins.length : Int)]) (ns := [xop, (xins.length : Int)]) HWSN.out rfl (by simp)) (by simp) (by intro z hz; simp at hz; rcases hz with rfl | rfl; exact HK.out.1.1; have := HK.out.1.2.2.2.2.1; unfold okI; omega) (by have h1 := HLK.out; have h2 := HL.out; omega))
     have HXA4 := hid (HWXN.out.ext hal)
     have HBA4 := hid (HNB0.out.ext hal)
     clear hal
     go_wp2_with fail
     refine HC4.out.mono ?_
     rintro e w4 ⟨rfl, b4, hw4, hx4⟩
     have HB4 := hid (Bx6.far HBA4.out hx4 HNE.out.1 HNE.out.2)
     have HW4 := hid hw4
     have HX4 := hid (HXA4.out.trans hx4)
     clear hw4 hx4 y0 y1 y2 y3 y4 y5
     obtain ⟨y0, y1, y2, y3, y4, y5⟩ := HB4.out.1.at_
     have HC5 := hid (numbers_any w0.heap.size p b4 (.slice Au xins.length cu) _ xins w4 HW4.out (by have h1 := HX4.out.x.size; have h2 := HX0.out.size; omega) (fun W hW => RE.ext HU.out ((HX4.out.more hW).old HX0.out HP0.out HOB.out)) (by have := HK.out.1.2.2.2.2.1; omega) HK.out.1.2.2.2.2.2 (by have h1 := HLK.out; have h2 := HL.out; rw [List.length_append]; omega))
     go_wp2_with fail
     refine HC5.out.mono ?_
     rintro e w5 ⟨rfl, b5, hw5, hx5⟩
     have HB5 := hid (Bx6.far HB4.out.1 hx5 HNE.out.1 HB4.out.2)
     have HW5 := hid hw5
     have HX5 := hid (HX4.out.trans hx5)
     clear hw5 hx5 y0 y1 y2 y3 y4 y5
     obtain ⟨y0, y1, y2, y3, y4, y5⟩ := HB5.out.1.at_
     have hal := (Ext.refl w5).alloc (.cells #[.int .i64 xkind, .int .i64 xfa, .int .i64 xa] 3)
     have HC6 := hid (numbers_any w0.heap.size p b5 (.slice (some ⟨w5.heap.size, 0, none⟩) 3 3) _ [xkind, xfa, xa] _ (HW5.out.ext hal) (by have h1 := HX5.out.x.size; have h2 := HX0.out.size; have h3 := hal.size; omega) (lit_stab (cs := #[.int .i64 xkind, .int .i64 xfa, .int .i64 xa]) (ns := [xkind, xfa, xa]) HW5.out rfl (by simp)) (by simp) (by intro z hz; simp at hz; rcases hz with rfl | rfl | rfl; exact HK.out.1.2.1; exact HK.out.1.2.2.1; exact HK.out.1.2.2.2.1) (by have h1 := HLK.out; have h2 := HL.out; rw [List.length_append, List.length_append]; omega))
     have HXA6 := hid (HX5.out.ext hal)
     have HBA6 := hid (HB5.out.1.ext hal)
     clear hal
     go_wp2_with fail
     refine HC6.out.mono ?_
     rintro e w6 ⟨rfl, b6, hw6, hx6⟩
     have HB6 := hid (Bx6.far HBA6.out hx6 HNE.out.1 HB5.out.2)
     have HW6 := hid hw6
     have HX6 := hid (HXA6.out.trans hx6)
     clear hw6 hx6 y0 y1 y2 y3 y4 y5
     obtain ⟨y0, y1, y2, y3, y4, y5⟩ := HB6.out.1.at_
     have HC7 := hid (IH.out w0 p _ b6 (.slice Ab xbody.length cb) _ xbody w6 HXB.out (HX6.out.old HX0.out HP0.out HOB.out) HP0.out HW6.out HK.out.2 (by have h1 := HLK.out; have h2 := HL.out; rw [List.length_append, List.length_append, List.length_append]; omega))
     go_wp2_with fail
     refine HC7.out.mono ?_
     rintro e w7 ⟨rfl, b7, hw7, hx7⟩
     have HW7 := hid hw7
     have HX7 := hid (HX6.out.trans hx7)
     clear hw7 hx7 y0 y1 y2 y3 y4 y5
     go_wp2
     exact ⟨⟨k + 1, HLT.out, by go_num, _, by rw [HS.out]; simpa only [List.append_assoc] using HW7.out, HX7.out⟩, by have := HLT.out; simp [intOf]; omega⟩
   · obtain rfl : k = ns.length := by omega
     have q1 : ¬ (ns.length : Int) < (ns.length : Int) := by omega
     rw [List.take_length, List.append_assoc] at hws
     have HWS := hid hws
     have HWX := hid hwx
     clear hws hwx hk hlt
     go_wp2
     go_end0
     exact ⟨rfl, _, HWS.out, HWX.out⟩
set_option maxHeartbeats 4000000 in
theorem gPutO_any (d : Nat) (v : Value) (l : List Nd) (out : Int) (w : World) (hv : NodesR d w v l) (hok : gOk (l, out) = true) (hpn : PutN 2 l) (ho : okI out) :
 Calls Tryz.prog 23 #[gAg v out] w fun e w' => ∃ u, e = .returned (.tuple #[u, .int .i64 0]) ∧ OB 5 w.heap.size w' u (grL (l, out)) ∧ Ext w w' := by
 obtain ⟨A, c, rfl⟩ := hv.form
 have HX0 := hid ((Ext.refl w).alloc (gCs (.slice A l.length c) out))
 have HB0 := hid (Blk.new w 26 #[.slice A l.length c, .int .i64 out])
 have HV := hid (hv.ext HX0.out)
 have HCK := hid (gCheck_any d (.slice A l.length c) l out _ HV.out)
 rw [show gE (l, out) = 0 from by unfold gE; rw [hok]; rfl] at HCK
 have HPN := hid hpn
 have HO := hid ho
 clear hv hok hpn ho
 go_enter Tryz.func23, Tryz.ntmps23
 go_upto_region 1 with fail
 generalize w.heap.size = q at *
 generalize w.alloc (gCs (.slice A l.length c) out) = w0 at *
 have c0 : w0.cell? ⟨q, 0, none⟩ = some (.slice A l.length c) := HB0.out.cell 0
 have c1 : w0.cell? ⟨q, 1, none⟩ = some (.int .i64 out) := HB0.out.cell 1
 go_wp2_with fail
 refine HCK.out.mono ?_
 rintro e w1 ⟨rfl, he1⟩
 have HX1 := hid (HX0.out.trans he1)
 have HV1 := hid (HV.out.ext he1)
 have HB1 := hid (HB0.out.ext he1)
 have hal := (Ext.refl w1).alloc (.cells #[.slice none 0 0] 116)
 have HW2 := hid (show WS w1.heap.size w1.heap.size (w1.alloc (.cells #[.slice none 0 0] 116)) (.slice none 0 0) [] from ⟨Blk.new _ _ _, OB.nilO _ _ _, by simp [Value.ownBlock]⟩)
 have HB2 := hid (HB1.out.ext hal)
 have HAL := hid hal
 have HN2 := hid (wnodes_any 2 w1 w1.heap.size d (.slice none 0 0) (.slice A l.length c) [] l _ (Nat.le_refl _) HV1.out HAL.out (Nat.le_refl _) HW2.out HPN.out (by simp))
 clear he1 hal c0 c1
 have c0 : (w1.alloc (.cells #[.slice none 0 0] 116)).cell? ⟨q, 0, none⟩ = some (.slice A l.length c) := HB2.out.cell 0
 go_wp2_with fail
 refine HN2.out.mono ?_
 rintro e w3 ⟨rfl, b3, hw3, hx3⟩
 rw [List.nil_append] at hw3
 have HW3 := hid hw3
 have HX3 := hid hx3
 have HE3 := hid (hx3.old HAL.out (Nat.le_refl _) HW2.out.ob)
 have HB3 := hid (HB1.out.ext HE3.out)
 have hal3 := (Ext.refl w3).alloc (.cells #[.int .i64 out] 3)
 have c1 : w3.cell? ⟨q, 1, none⟩ = some (.int .i64 out) := HB3.out.cell 1
 have HC4 := hid (numbers_any w1.heap.size w1.heap.size b3 (.slice (some ⟨w3.heap.size, 0, none⟩) 1 1) _ [out] _ (HW3.out.ext hal3) (Nat.le_trans HE3.out.size hal3.size) (lit_stab (cs := #[.int .i64 out]) (ns := [out]) HW3.out rfl (by simp)) (by simp) (by intro z hz; simp at hz; subst hz; exact HO.out) (by have h1 := ndsL_len HPN.out; have h2 := capL_le (d := 2) (Nat.le_refl _); omega))
 have HX3a := hid (HX3.out.ext hal3)
 clear hw3 hx3 hal3 c0
 go_wp2_with fail
 refine HC4.out.mono ?_
 rintro e w4 ⟨rfl, b4, hw4, hx4⟩
 rw [show numsL [out] = Num.put out.toNat by unfold numsL; simp] at hw4
 have HW4 := hid hw4
 have HE4 := hid ((HX3a.out.trans hx4).old HAL.out (Nat.le_refl _) HW2.out.ob)
 obtain ⟨A4, n4, c4, hb4⟩ : ∃ A n c, b4 = .slice A n c := by obtain ⟨A, c, h⟩ := hw4.ob.form; exact ⟨A, _, c, h⟩
 subst hb4
 have d0 : w4.cell? ⟨w1.heap.size, 0, none⟩ = some (.slice A4 n4 c4) := hw4.blk.cell 0
 clear hw4 hx4 c1
 go_wp2
 go_ret2
 exact ⟨_, rfl, HW4.out.ob.low HX1.out.size, HX1.out.trans HE4.out⟩
end Go.Proofs.YtpmpjjhchkoboaaGreatDoor
namespace Go.Proofs.YtpmpjjhchkoboaaGreatDoor
open Go.RowKit Go.Ox Go.Ox.Gr Go.Ox.Sc
attribute [local irreducible] RE OE EpR InsR ActsR RP
def anyB (p : Bag → Bool) (l : List (Bag)) : Bool := l.any p
theorem anyB_s (p : Bag → Bool) (l : List (Bag)) {k : Nat} (h : k < l.length) : anyB p (l.take (k + 1)) = (anyB p (l.take k) || p l[k]) := by
 unfold anyB
 rw [List.take_succ_eq_append_getElem h, List.any_append]
 simp
set_option maxHeartbeats 2000000 in
theorem indexB_any (p : Bag → Bool) (g : Nat) (lb : Array Value) (eg : ∀ args w, (callFunc g args).run Tryz.prog w = .ok (.enter g args) w) (v : Value) (l : List (Bag)) (w : World) (hv : EpR w v l) (hl : l.length ≤ 1000000000)
 (hcl : ∀ u x W, x ∈ l → Ext w W → RP W u x → Calls Tryz.prog g (#[u] ++ lb) W fun e W' => e = .returned (.bool (p x)) ∧ Ext W W') :
 Calls Tryz.prog 129 #[v, .func (.func g) #[] lb] w fun e w' => Ext w w' ∧ ((e = .returned (.int .i64 (-1)) ∧ anyB p l = false) ∨ ∃ k : Nat, e = .returned (.int .i64 (k : Int)) ∧ anyB p l = true) := by
 obtain ⟨A, c, rfl⟩ := hv.form
 have HV := hid hv
 have HCL := hid hcl
 clear hv hcl
 go_enter Tryz.func129, Tryz.ntmps129
 go_wp2
 go_loopw [8] (fun iv wr => ∃ k : Nat, k ≤ l.length ∧ iv = .int .i64 (k : Int) ∧ anyB p (l.take k) = false ∧ Ext w wr) (fun iv _ => l.length - (intOf iv).toNat)
 case atStart => exact ⟨0, Nat.zero_le _, rfl, rfl, Ext.refl _⟩
 case round =>
  obtain ⟨k, hk, rfl, hp, hext⟩ := hrel
  have HP := hid hp
  have HE := hid hext
  clear hp
  by_cases hlt : k < l.length
  · have g1 : (k : Int) < (l.length : Int) := by omega
    have g0 : 0 ≤ (k : Int) := by omega
    have g1n : k < l.length := hlt
    have HLT := hid hlt
    obtain ⟨bA, oA, u0, rfl, c0, hu0⟩ := (EpR.ext HV.out hext).at_ hlt
    have HS := hid (show anyB p (l.take (k + 1)) = p l[k] by rw [anyB_s p l hlt, HP.out]; rfl)
    have HT := hid (show p l[k] = true → anyB p l = true from fun h => List.any_eq_true.2 ⟨_, List.getElem_mem hlt, h⟩)
    have HC := hid (HCL.out u0 l[k] wr (List.getElem_mem hlt) hext hu0)
    generalize l[k] = x at *
    obtain ⟨Au, cu, rfl⟩ := hu0.form
    clear hext hk hlt
    cases hd : p x with
    | true =>
     rw [hd] at HC
     have HR := hid (HT.out hd)
     clear hd
     go_wp2_with fail
     refine HC.out.mono ?_
     rintro e w1 ⟨rfl, he1⟩
     go_wp2
     go_ret
     exact ⟨HE.out.trans he1, .inr ⟨k, rfl, HR.out⟩⟩
    | false =>
     rw [hd] at HC HS
     clear hd
     go_wp2_with fail
     refine HC.out.mono ?_
     rintro e w1 ⟨rfl, he1⟩
     go_wp2
     exact ⟨⟨k + 1, HLT.out, by go_num, HS.out, HE.out.trans he1⟩, by have := HLT.out; simp [intOf]; omega⟩
  · obtain rfl : k = l.length := by omega
    have g1 : ¬ (l.length : Int) < (l.length : Int) := by omega
    rw [List.take_length] at HP
    clear hext
    go_wp2
    go_ret
    exact ⟨HE.out, .inl ⟨rfl, HP.out⟩⟩
set_option maxHeartbeats 1000000 in
theorem containsB_any (p : Bag → Bool) (g : Nat) (lb : Array Value) (eg : ∀ args w, (callFunc g args).run Tryz.prog w = .ok (.enter g args) w) (v : Value) (l : List (Bag)) (w : World) (hv : EpR w v l) (hl : l.length ≤ 1000000000)
 (hcl : ∀ u x W, x ∈ l → Ext w W → RP W u x → Calls Tryz.prog g (#[u] ++ lb) W fun e W' => e = .returned (.bool (p x)) ∧ Ext W W') :
 Calls Tryz.prog 87 #[v, .func (.func g) #[] lb] w fun e w' => e = .returned (.bool (anyB p l)) ∧ Ext w w' := by
 have HI := hid (indexB_any p g lb eg v l w hv hl hcl)
 obtain ⟨A, c, rfl⟩ := hv.form
 clear hv hcl eg
 generalize anyB p l = a at *
 go_enter Tryz.func87, Tryz.ntmps87
 go_wp2_with fail
 refine HI.out.mono ?_
 rintro e w1 ⟨he1, ⟨rfl, rfl⟩ | ⟨k, rfl, rfl⟩⟩
 · go_wp2
   go_ret
   exact ⟨rfl, he1⟩
 · have g0 : 0 ≤ (k : Int) := by omega
   go_wp2
   go_ret
   exact ⟨rfl, he1⟩
def anyE (p : List Bag → Bool) (l : List (List Bag)) : Bool := l.any p
theorem anyE_s (p : List Bag → Bool) (l : List (List Bag)) {k : Nat} (h : k < l.length) : anyE p (l.take (k + 1)) = (anyE p (l.take k) || p l[k]) := by
 unfold anyE
 rw [List.take_succ_eq_append_getElem h, List.any_append]
 simp
set_option maxHeartbeats 2000000 in
theorem indexE_any (p : List Bag → Bool) (g : Nat) (lb : Array Value) (eg : ∀ args w, (callFunc g args).run Tryz.prog w = .ok (.enter g args) w) (v : Value) (l : List (List Bag)) (w : World) (hv : InsR w v l) (hl : l.length ≤ 1000000000)
 (hcl : ∀ u x W, x ∈ l → Ext w W → EpR W u x → Calls Tryz.prog g (#[u] ++ lb) W fun e W' => e = .returned (.bool (p x)) ∧ Ext W W') :
 Calls Tryz.prog 93 #[v, .func (.func g) #[] lb] w fun e w' => Ext w w' ∧ ((e = .returned (.int .i64 (-1)) ∧ anyE p l = false) ∨ ∃ k : Nat, e = .returned (.int .i64 (k : Int)) ∧ anyE p l = true) := by
 obtain ⟨A, c, rfl⟩ := hv.form
 have HV := hid hv
 have HCL := hid hcl
 clear hv hcl
 go_enter Tryz.func93, Tryz.ntmps93
 go_wp2
 go_loopw [8] (fun iv wr => ∃ k : Nat, k ≤ l.length ∧ iv = .int .i64 (k : Int) ∧ anyE p (l.take k) = false ∧ Ext w wr) (fun iv _ => l.length - (intOf iv).toNat)
 case atStart => exact ⟨0, Nat.zero_le _, rfl, rfl, Ext.refl _⟩
 case round =>
  obtain ⟨k, hk, rfl, hp, hext⟩ := hrel
  have HP := hid hp
  have HE := hid hext
  clear hp
  by_cases hlt : k < l.length
  · have g1 : (k : Int) < (l.length : Int) := by omega
    have g0 : 0 ≤ (k : Int) := by omega
    have g1n : k < l.length := hlt
    have HLT := hid hlt
    obtain ⟨bA, oA, u0, rfl, c0, hu0⟩ := (InsR.ext HV.out hext).at_ hlt
    have HS := hid (show anyE p (l.take (k + 1)) = p l[k] by rw [anyE_s p l hlt, HP.out]; rfl)
    have HT := hid (show p l[k] = true → anyE p l = true from fun h => List.any_eq_true.2 ⟨_, List.getElem_mem hlt, h⟩)
    have HC := hid (HCL.out u0 l[k] wr (List.getElem_mem hlt) hext hu0)
    generalize l[k] = x at *
    obtain ⟨Au, cu, rfl⟩ := hu0.form
    clear hext hk hlt
    cases hd : p x with
    | true =>
     rw [hd] at HC
     have HR := hid (HT.out hd)
     clear hd
     go_wp2_with fail
     refine HC.out.mono ?_
     rintro e w1 ⟨rfl, he1⟩
     go_wp2
     go_ret
     exact ⟨HE.out.trans he1, .inr ⟨k, rfl, HR.out⟩⟩
    | false =>
     rw [hd] at HC HS
     clear hd
     go_wp2_with fail
     refine HC.out.mono ?_
     rintro e w1 ⟨rfl, he1⟩
     go_wp2
     exact ⟨⟨k + 1, HLT.out, by go_num, HS.out, HE.out.trans he1⟩, by have := HLT.out; simp [intOf]; omega⟩
  · obtain rfl : k = l.length := by omega
    have g1 : ¬ (l.length : Int) < (l.length : Int) := by omega
    rw [List.take_length] at HP
    clear hext
    go_wp2
    go_ret
    exact ⟨HE.out, .inl ⟨rfl, HP.out⟩⟩
set_option maxHeartbeats 1000000 in
theorem containsE_any (p : List Bag → Bool) (g : Nat) (lb : Array Value) (eg : ∀ args w, (callFunc g args).run Tryz.prog w = .ok (.enter g args) w) (v : Value) (l : List (List Bag)) (w : World) (hv : InsR w v l) (hl : l.length ≤ 1000000000)
 (hcl : ∀ u x W, x ∈ l → Ext w W → EpR W u x → Calls Tryz.prog g (#[u] ++ lb) W fun e W' => e = .returned (.bool (p x)) ∧ Ext W W') :
 Calls Tryz.prog 46 #[v, .func (.func g) #[] lb] w fun e w' => e = .returned (.bool (anyE p l)) ∧ Ext w w' := by
 have HI := hid (indexE_any p g lb eg v l w hv hl hcl)
 obtain ⟨A, c, rfl⟩ := hv.form
 clear hv hcl eg
 generalize anyE p l = a at *
 go_enter Tryz.func46, Tryz.ntmps46
 go_wp2_with fail
 refine HI.out.mono ?_
 rintro e w1 ⟨he1, ⟨rfl, rfl⟩ | ⟨k, rfl, rfl⟩⟩
 · go_wp2
   go_ret
   exact ⟨rfl, he1⟩
 · have g0 : 0 ≤ (k : Int) := by omega
   go_wp2
   go_ret
   exact ⟨rfl, he1⟩
def anyA (p : Sc.Act → Bool) (l : List (Sc.Act)) : Bool := l.any p
theorem anyA_s (p : Sc.Act → Bool) (l : List (Sc.Act)) {k : Nat} (h : k < l.length) : anyA p (l.take (k + 1)) = (anyA p (l.take k) || p l[k]) := by
 unfold anyA
 rw [List.take_succ_eq_append_getElem h, List.any_append]
 simp
set_option maxHeartbeats 2000000 in
theorem indexA_any (p : Sc.Act → Bool) (g : Nat) (lb : Array Value) (eg : ∀ args w, (callFunc g args).run Tryz.prog w = .ok (.enter g args) w) (v : Value) (l : List (Sc.Act)) (w : World) (hv : ActsR w v l) (hl : l.length ≤ 1000000000)
 (hcl : ∀ u x W, x ∈ l → Ext w W → RE W u x.2 → Calls Tryz.prog g (#[actAg x.1.1 x.1.2.1 x.1.2.2.1 x.1.2.2.2.1 x.1.2.2.2.2 u] ++ lb) W fun e W' => e = .returned (.bool (p x)) ∧ Ext W W') :
 Calls Tryz.prog 94 #[v, .func (.func g) #[] lb] w fun e w' => Ext w w' ∧ ((e = .returned (.int .i64 (-1)) ∧ anyA p l = false) ∨ ∃ k : Nat, e = .returned (.int .i64 (k : Int)) ∧ anyA p l = true) := by
 obtain ⟨A, c, rfl⟩ := hv.form
 have HV := hid hv
 have HCL := hid hcl
 clear hv hcl
 go_enter Tryz.func94, Tryz.ntmps94
 go_wp2
 go_loopw [8] (fun iv wr => ∃ k : Nat, k ≤ l.length ∧ iv = .int .i64 (k : Int) ∧ anyA p (l.take k) = false ∧ Ext w wr) (fun iv _ => l.length - (intOf iv).toNat)
 case atStart => exact ⟨0, Nat.zero_le _, rfl, rfl, Ext.refl _⟩
 case round =>
  obtain ⟨k, hk, rfl, hp, hext⟩ := hrel
  have HP := hid hp
  have HE := hid hext
  clear hp
  by_cases hlt : k < l.length
  · have g1 : (k : Int) < (l.length : Int) := by omega
    have g0 : 0 ≤ (k : Int) := by omega
    have g1n : k < l.length := hlt
    have HLT := hid hlt
    obtain ⟨bA, oA, u0, rfl, c0, c1, c2, c3, c4, c5, hu0⟩ := (ActsR.ext HV.out hext).at_ hlt
    have HS := hid (show anyA p (l.take (k + 1)) = p l[k] by rw [anyA_s p l hlt, HP.out]; rfl)
    have HT := hid (show p l[k] = true → anyA p l = true from fun h => List.any_eq_true.2 ⟨_, List.getElem_mem hlt, h⟩)
    have HC := hid (HCL.out u0 l[k] wr (List.getElem_mem hlt) hext hu0)
    generalize l[k] = x at *
    obtain ⟨Au, cu, rfl⟩ := hu0.form
    clear hext hk hlt
    cases hd : p x with
    | true =>
     rw [hd] at HC
     have HR := hid (HT.out hd)
     clear hd
     go_wp2_with fail
     refine HC.out.mono ?_
     rintro e w1 ⟨rfl, he1⟩
     go_wp2
     go_ret
     exact ⟨HE.out.trans he1, .inr ⟨k, rfl, HR.out⟩⟩
    | false =>
     rw [hd] at HC HS
     clear hd
     go_wp2_with fail
     refine HC.out.mono ?_
     rintro e w1 ⟨rfl, he1⟩
     go_wp2
     exact ⟨⟨k + 1, HLT.out, by go_num, HS.out, HE.out.trans he1⟩, by have := HLT.out; simp [intOf]; omega⟩
  · obtain rfl : k = l.length := by omega
    have g1 : ¬ (l.length : Int) < (l.length : Int) := by omega
    rw [List.take_length] at HP
    clear hext
    go_wp2
    go_ret
    exact ⟨HE.out, .inl ⟨rfl, HP.out⟩⟩
set_option maxHeartbeats 1000000 in
theorem containsA_any (p : Sc.Act → Bool) (g : Nat) (lb : Array Value) (eg : ∀ args w, (callFunc g args).run Tryz.prog w = .ok (.enter g args) w) (v : Value) (l : List (Sc.Act)) (w : World) (hv : ActsR w v l) (hl : l.length ≤ 1000000000)
 (hcl : ∀ u x W, x ∈ l → Ext w W → RE W u x.2 → Calls Tryz.prog g (#[actAg x.1.1 x.1.2.1 x.1.2.2.1 x.1.2.2.2.1 x.1.2.2.2.2 u] ++ lb) W fun e W' => e = .returned (.bool (p x)) ∧ Ext W W') :
 Calls Tryz.prog 47 #[v, .func (.func g) #[] lb] w fun e w' => e = .returned (.bool (anyA p l)) ∧ Ext w w' := by
 have HI := hid (indexA_any p g lb eg v l w hv hl hcl)
 obtain ⟨A, c, rfl⟩ := hv.form
 clear hv hcl eg
 generalize anyA p l = a at *
 go_enter Tryz.func47, Tryz.ntmps47
 go_wp2_with fail
 refine HI.out.mono ?_
 rintro e w1 ⟨he1, ⟨rfl, rfl⟩ | ⟨k, rfl, rfl⟩⟩
 · go_wp2
   go_ret
   exact ⟨rfl, he1⟩
 · have g0 : 0 ≤ (k : Int) := by omega
   go_wp2
   go_ret
   exact ⟨rfl, he1⟩
end Go.Proofs.YtpmpjjhchkoboaaGreatDoor
