/-
  ScrPut, packed: what the claim needs of them.
-/
import Derived.Test.YtpmpjjhchkoboaaGreatDoorPa26
import Derived.Test.YtpmpjjhchkoboaaGreatDoorPa30
import Derived.Test.YtpmpjjhchkoboaaGreatDoorPa21
import Derived.Test.YtpmpjjhchkoboaaGreatDoorPa31
namespace Go.Proofs.YtpmpjjhchkoboaaGreatDoor
open Go.RowKit Go.Ox Go.Ox.Gr Go.Ox.Sc
set_option linter.unusedVariables false
set_option linter.unusedSimpArgs false
/-- a writer: its block, its own bytes -/
structure WT (B p : Nat) (w : World) (bv : Value) (l : List UInt8) : Prop where
  blk : Blk w p 58 #[bv]
  ob : OB 5 B w bv l
  ne : bv.ownBlock ≠ some p
section
variable {B p : Nat} {w w' w2 : World} {bv bv' bv2 : Value} {l m : List UInt8}
theorem WT.ext (h : WT B p w bv l) (he : Ext w w') : WT B p w' bv l := ⟨h.blk.ext he, h.ob.ext he, h.ne⟩
/-- bytes were appended, the slice kept -/
theorem WT.put (h : WT B p w bv l) (ha : Appended w w' B 5 1 bv bv' l.length m.length (l.map byteV) (m.map byteV)) : WT B p (w'.setCell ⟨p, 0, none⟩ bv') bv' (l ++ m) ∧ WX p bv w bv' (w'.setCell ⟨p, 0, none⟩ bv') := by
  have hg : ExtQ (fun k => bv.ownBlock = some k) w w' := ExtQ.grown ha.grown fun k hk => hk
  have hne : bv'.ownBlock ≠ some p := by
    have hlt := h.blk.lt
    rcases ha.at_ with q | q
    · rw [q]; exact h.ne
    · rw [q]; intro e; injection e with e; omega
  have hb : Blk w' p 58 #[bv] := h.blk.extQ hg h.ne
  have hs : ExtQ (fun k => k = p) w' (w'.setCell ⟨p, 0, none⟩ bv') := ExtQ.setCell (Q := fun k => k = p) (ExtQ.refl _ _) (p := ⟨p, 0, none⟩) rfl bv'
  refine ⟨⟨hb.set_ 0 bv', ?_, hne⟩, (hg.mono fun k hk => .inr hk).trans (hs.mono fun k hk => .inl hk), fun k hk => ?_⟩
  · have h0 : OB 5 B w' bv' (l ++ m) := OB.app ha.own
    have h1 := ownsRow_extQ h0.own hs (fun k hk e => hne (by rw [hk, e]))
    exact h1
  · rcases ha.at_ with q | q
    · rw [q] at hk; exact .inl hk
    · rw [q] at hk; injection hk with hk; exact .inr (by omega)
end
/-- own numbers stay behind the writer -/
theorem own_stabI {p : Nat} {bv v : Value} {w w' : World} {B C : Nat} {l : List UInt8} {ns : List Int} (h : WT B p w bv l) (hv : OE 3 C w' v ns) (hC : w.heap.size ≤ C) :
    ∀ W, ExtQ (fun k => k = p ∨ bv.ownBlock = some k) w' W → RE W v ns := fun W hW => by
  refine (OE.mk (ownsRow_extQ hv.own hW fun k hk q => ?_)).re
  have h1 := (hv.own.lt k hk).1
  have h2 := h.blk.lt
  rcases q with q | q
  · omega
  · have := (h.ob.own.lt k q).2; omega
/-- own bytes stay behind the writer -/
theorem own_stabB {p : Nat} {bv v : Value} {w w' : World} {B C : Nat} {l m : List UInt8} (h : WT B p w bv l) (hv : OB 5 C w' v m) (hC : w.heap.size ≤ C) :
    ∀ W, ExtQ (fun k => k = p ∨ bv.ownBlock = some k) w' W → RB W v m := fun W hW => by
  have h0 : OB 5 C W v m := ownsRow_extQ hv.own hW fun k hk q => by
    have h1 := (hv.own.lt k hk).1
    have h2 := h.blk.lt
    rcases q with q | q
    · omega
    · have := (h.ob.own.lt k q).2; omega
  exact h0.rb
attribute [local irreducible] RE OE OB RB NodesR EpR InsR ActsR RP
set_option maxRecDepth 100000 in
set_option maxHeartbeats 4000000 in
theorem snumbers_any (B p : Nat) (bv v : Value) (l : List UInt8) (ns : List Int) (w : World) (hw : WT B p w bv l) (hB : B ≤ w.heap.size) (hst : ∀ W, ExtQ (fun k => k = p ∨ bv.ownBlock = some k) w W → RE W v ns) (hl : ns.length ≤ 1000) (hn : ∀ x ∈ ns, okI x) (hll : l.length ≤ 100000000) :
    Calls Tryz.prog 20 #[.pointer (some ⟨p, 0, none⟩), v] w fun e w' => e = .returned (.tuple #[]) ∧ ∃ bv', WT B p w' bv' (l ++ numsL ns) ∧ WX p bv w bv' w' := by
  obtain ⟨A, c, rfl⟩ := (hst w (ExtQ.refl _ _)).form
  have HW := Lib.hid hw
  have HST := Lib.hid hst
  have HL := Lib.hid hl
  have HN := Lib.hid (fun (k : Nat) (h : k < ns.length) => hn ns[k] (List.getElem_mem h))
  have HLL := Lib.hid (show ∀ k, (l ++ numsL (ns.take k)).length ≤ 100010000 from fun k => by
    have h1 := numsL_len (ns.take k) fun x hx => hn x (List.mem_of_mem_take hx)
    rw [List.length_append]; rw [List.length_take] at h1; omega)
  have HB := Lib.hid hB
  clear hw hst hl hn hll hB
  go_enter Tryz.func20, Tryz.ntmps20
  go_wp2
  go_loopw [10] (fun iv wr => ∃ k : Nat, k ≤ ns.length ∧ iv = .int .i64 (k : Int) ∧ ∃ bv', WT B p wr bv' (l ++ numsL (ns.take k)) ∧ WX p bv w bv' wr) (fun iv _ => ns.length - (intOf iv).toNat)
  case atStart => exact ⟨0, Nat.zero_le _, rfl, bv, by rw [show numsL (ns.take 0) = [] from rfl, List.append_nil]; exact HW.out, WX.refl _ _ _⟩
  case round =>
    obtain ⟨k, hk, rfl, b2, hws, hwx⟩ := hrel
    have HWS := Lib.hid hws
    have HWX := Lib.hid hwx
    have hk1000 : k ≤ 1000 := by have := HL.out; omega
    by_cases hlt : k < ns.length
    · have q1 : (k : Int) < (ns.length : Int) := by omega
      have q0 : 0 ≤ (k : Int) := by omega
      have q1n : k < ns.length := hlt
      have HLT := Lib.hid hlt
      obtain ⟨bI, oI, rfl, z0⟩ := ri1 (HST.out wr hwx.x) hlt
      have HS := Lib.hid (numsL_s ns hlt)
      have HK := Lib.hid (HN.out k hlt)
      have HLK := Lib.hid (HLL.out k)
      generalize ns[k] = x at *
      obtain ⟨y, hy⟩ : ∃ y : Nat, x = (y : Int) := ⟨x.toNat, by have := HK.out.1; omega⟩
      subst hy
      rw [show ((y : Int)).toNat = y from rfl] at HS
      have hy63 : y < 9223372036854775808 := by have := HK.out.2; omega
      have HY := Lib.hid hy63
      replace HS := Lib.hid (show l ++ numsL (ns.take (k + 1)) = (l ++ numsL (ns.take k)) ++ Num.put y by rw [HS.out, List.append_assoc])
      generalize l ++ numsL (ns.take k) = lk at *
      clear hws hwx hlt hk hy63
      go_wp2_with fail
      refine (put_any y _ HY.out).mono ?_
      rintro e w1 ⟨v1, rfl, ho1, he1⟩
      have HO1 := Lib.hid ho1
      have HW1 := Lib.hid (HWS.out.ext he1)
      have HX1 := Lib.hid (HWX.out.ext he1)
      obtain ⟨A1, c1, rfl⟩ := ho1.form
      obtain ⟨A2, c2, rfl⟩ := HWS.out.ob.form
      clear ho1 he1 z0
      have c0 : w1.cell? ⟨p, 0, none⟩ = some (.slice A2 lk.length c2) := HW1.out.blk.cell 0
      go_wp2_with (at_builtin; refine wpList_app rfl elemB _ _ _ rfl B _ lk.length (lk.map byteV) rfl HW1.out.ob.own _ (Num.put y).length ((Num.put y).map byteV) rfl HO1.out.rb.rd (one_byteV _) (by have := HLK.out; have := put_le9 HY.out; omega) (by have := HLK.out; have := put_le9 HY.out; unfold maxLen; omega) (Nat.le_trans HB.out HX1.out.x.size) ?_; intro v9 w9 ha9; have HP9 := Lib.hid (HW1.out.put ha9); obtain ⟨A9, n9, c9, rfl⟩ : ∃ A n c, v9 = .slice A n c := (by obtain ⟨A, c, h⟩ := HP9.out.1.ob.form; exact ⟨A, _, c, h⟩); have z9 : w9.cell? ⟨p, 0, none⟩ = some (.slice A2 lk.length c2) := (HW1.out.blk.extQ (ExtQ.grown (Q := fun k => (Value.slice A2 lk.length c2).ownBlock = some k) ha9.grown fun k hk => hk) HW1.out.ne).cell 0; have f9 : w9.frozen? ⟨p, 0, none⟩ = false := (HW1.out.blk.extQ (ExtQ.grown (Q := fun k => (Value.slice A2 lk.length c2).ownBlock = some k) ha9.grown fun k hk => hk) HW1.out.ne).frozen 0; clear ha9)
      exact ⟨⟨k + 1, HLT.out, by go_num, _, by rw [HS.out]; exact HP9.out.1, HX1.out.trans HP9.out.2⟩, by have := HLT.out; simp [intOf]; omega⟩
    · obtain rfl : k = ns.length := by omega
      have q1 : ¬ (ns.length : Int) < (ns.length : Int) := by omega
      rw [List.take_length] at HWS
      clear hws hwx hk hlt
      go_wp2
      go_end0
      exact ⟨rfl, _, HWS.out, HWX.out⟩
/-- a literal of numbers, laid behind the writer -/
theorem slit_stab {p : Nat} {bv : Value} {w : World} {B : Nat} {l : List UInt8} {cs : Array Value} {ns : List Int} (h : WT B p w bv l) (hcs : cs.toList = ns.flatMap fun (x : Int) => [Value.int .i64 x]) (hm : ns.length ≤ 1000) :
    ∀ W, ExtQ (fun k => k = p ∨ bv.ownBlock = some k) (w.alloc (.cells cs 3)) W → RE W (.slice (some ⟨w.heap.size, 0, none⟩) ns.length ns.length) ns := fun W hW => by
  have hs : cs.size = ns.length := by
    have := congrArg List.length hcs
    rw [Array.length_toList] at this
    rw [this]
    clear this hcs hm
    induction ns with
    | nil => rfl
    | cons x l ih => rw [List.flatMap_cons, List.length_append, ih, List.length_cons]; simp; omega
  have h0 : OE 3 w.heap.size (w.alloc (.cells cs 3)) (.slice (some ⟨w.heap.size, 0, none⟩) ns.length ns.length) ns := by
    have := World.ownsRow_lit (base := w.heap.size) (e := 3) (size := 1) w cs ns.length (Nat.le_refl _) (by unfold maxLen; omega) (by rw [hs]; omega)
    rw [hcs] at this
    exact OE.mk this
  refine (OE.mk (ownsRow_extQ h0.own hW fun k hk q => ?_)).re
  have h1 := (h0.lt hk).1
  have h2 := h.blk.lt
  rcases q with q | q
  · omega
  · have := (h.ob.own.lt k q).2; omega
set_option maxRecDepth 100000 in
set_option maxHeartbeats 4000000 in
theorem spart_any (B p : Nat) (bv v : Value) (l b : List UInt8) (er : Int) (w : World) (hw : WT B p w bv l) (hB : B ≤ w.heap.size) (hst : ∀ W, ExtQ (fun k => k = p ∨ bv.ownBlock = some k) w W → RB W v b) (hl : b.length ≤ 1000000) (hll : l.length ≤ 90000000) :
    Calls Tryz.prog 22 #[.pointer (some ⟨p, 0, none⟩), v, .int .i64 er] w fun e w' => e = .returned (.tuple #[]) ∧ ∃ bv', WT B p w' bv' (l ++ partL b) ∧ WX p bv w bv' w' := by
  obtain ⟨A, c, rfl⟩ := (hst w (ExtQ.refl _ _)).form
  have hal := (Ext.refl w).alloc (.cells #[.int .i64 (b.length : Int)] 3)
  have HW := Lib.hid (hw.ext hal)
  have HST := Lib.hid hst
  have HX := Lib.hid (WX.of (p := p) (bv := bv) hal)
  have HBW := Lib.hid (Nat.le_trans hB hal.size)
  have HB0 := Lib.hid hB
  have HS0 := Lib.hid (slit_stab (cs := #[.int .i64 (b.length : Int)]) (ns := [(b.length : Int)]) hw rfl (by simp))
  have HNB := Lib.hid (fun h1 h2 h3 => snumbers_any B p bv (.slice (some ⟨w.heap.size, 0, none⟩) 1 1) l [(b.length : Int)] (w.alloc (.cells #[.int .i64 (b.length : Int)] 3)) h1 h2 h3 (by simp) (by intro x hx; simp at hx; subst hx; unfold okI; omega) (by omega))
  rw [show l ++ numsL [(b.length : Int)] = l ++ Num.put b.length by unfold numsL; simp] at HNB
  have HLL := Lib.hid (show (l ++ Num.put b.length).length ≤ 90000009 from by have := put_le9 (n := b.length) (by omega); rw [List.length_append]; omega)
  have HL := Lib.hid hl
  rw [show l ++ partL b = (l ++ Num.put b.length) ++ b by unfold partL; rw [List.append_assoc]]
  generalize l ++ Num.put b.length = lk at *
  clear hw hB hst hl hll hal
  go_enter Tryz.func22, Tryz.ntmps22
  go_wp2_with fail
  refine (HNB.out HW.out HBW.out HS0.out).mono ?_
  rintro e w1 ⟨rfl, b1, hw1, hx1⟩
  have HW1 := Lib.hid hw1
  have HX1 := Lib.hid (HX.out.trans hx1)
  have HR1 := Lib.hid (HST.out w1 (HX.out.trans hx1).x)
  obtain ⟨A2, c2, rfl⟩ := hw1.ob.form
  clear hw1 hx1
  have c0 : w1.cell? ⟨p, 0, none⟩ = some (.slice A2 lk.length c2) := HW1.out.blk.cell 0
  go_wp2_with (at_builtin; refine wpList_app rfl elemB _ _ _ rfl B _ lk.length (lk.map byteV) rfl HW1.out.ob.own _ b.length (b.map byteV) rfl HR1.out.rd (one_byteV _) (by have := HLL.out; have := HL.out; omega) (by have := HLL.out; have := HL.out; unfold maxLen; omega) (Nat.le_trans HB0.out HX1.out.x.size) ?_; intro v9 w9 ha9; have HP9 := Lib.hid (HW1.out.put ha9); obtain ⟨A9, n9, c9, rfl⟩ : ∃ A n c, v9 = .slice A n c := (by obtain ⟨A, c, h⟩ := HP9.out.1.ob.form; exact ⟨A, _, c, h⟩); have z9 : w9.cell? ⟨p, 0, none⟩ = some (.slice A2 lk.length c2) := (HW1.out.blk.extQ (ExtQ.grown (Q := fun k => (Value.slice A2 lk.length c2).ownBlock = some k) ha9.grown fun k hk => hk) HW1.out.ne).cell 0; have f9 : w9.frozen? ⟨p, 0, none⟩ = false := (HW1.out.blk.extQ (ExtQ.grown (Q := fun k => (Value.slice A2 lk.length c2).ownBlock = some k) ha9.grown fun k hk => hk) HW1.out.ne).frozen 0; clear ha9)
  go_end0
  exact ⟨rfl, _, HP9.out.1, HX1.out.trans HP9.out.2⟩
end Go.Proofs.YtpmpjjhchkoboaaGreatDoor
