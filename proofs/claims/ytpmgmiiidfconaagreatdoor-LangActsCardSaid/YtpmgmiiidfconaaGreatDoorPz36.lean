/-
  LaNodes, LaSplit, packed: what the claim needs of them.
-/
import Derived.Test.YtpmgmiiidfconaaGreatDoorPz35
import Derived.Test.YtpmgmiiidfconaaGreatDoorPz15
set_option linter.unusedVariables false
set_option linter.unusedSimpArgs false
namespace Go.Proofs.YtpmgmiiidfconaaGreatDoor
open Go.RowKit Go.Ox Go.Ox.Gr Go.Ox.Sc Go.Ox.La Go.Shelf
/-- lines, each ended -/
def linesT (l : List W) : W := l.flatMap fun x => x ++ [10]
theorem linesT_app (a b : List W) : linesT (a ++ b) = linesT a ++ linesT b := List.flatMap_append
theorem linesT_one (a : W) : linesT [a] = a ++ [10] := by simp [linesT]
/-- the lines of a body's nodes, from the i-th on -/
def bodyLs : List Nd → Nat → List W
  | [], _ => []
  | n :: r, i => joinL (nodeW n i true) :: bodyLs r (i + 1)
def endW : W := [101, 110, 100]
/-- the lines of nodes -/
def outLs : List Nd → Nat → List W
  | [], _ => []
  | n :: r, i => (joinL (nodeW n i false) :: (if n.op = 9 then bodyLs n.body 0 ++ [endW] else [])) ++ outLs r (i + 1)
theorem bodyLs_app : ∀ (l r : List Nd) (i : Nat), bodyLs (l ++ r) i = bodyLs l i ++ bodyLs r (i + l.length)
  | [], r, i => rfl
  | n :: l, r, i => by
    rw [List.cons_append]
    show joinL (nodeW n i true) :: bodyLs (l ++ r) (i + 1) = joinL (nodeW n i true) :: bodyLs l (i + 1) ++ _
    rw [bodyLs_app l r (i + 1), List.cons_append, List.length_cons, show i + 1 + l.length = i + (l.length + 1) by omega]
theorem outLs_app : ∀ (l r : List Nd) (i : Nat), outLs (l ++ r) i = outLs l i ++ outLs r (i + l.length)
  | [], r, i => rfl
  | n :: l, r, i => by
    rw [List.cons_append]
    show (joinL (nodeW n i false) :: (if n.op = 9 then bodyLs n.body 0 ++ [endW] else [])) ++ outLs (l ++ r) (i + 1) = (joinL (nodeW n i false) :: (if n.op = 9 then bodyLs n.body 0 ++ [endW] else [])) ++ outLs l (i + 1) ++ _
    rw [outLs_app l r (i + 1), ← List.append_assoc, List.length_cons, show i + 1 + l.length = i + (l.length + 1) by omega]
theorem bodyLs_s (l : List Nd) {k : Nat} (h : k < l.length) : bodyLs (l.take (k + 1)) 0 = bodyLs (l.take k) 0 ++ [joinL (nodeW l[k] k true)] := by
  rw [List.take_succ_eq_append_getElem h, bodyLs_app, List.length_take, show 0 + min k l.length = k by omega]
  rfl
theorem outLs_s (l : List Nd) {k : Nat} (h : k < l.length) : outLs (l.take (k + 1)) 0 = outLs (l.take k) 0 ++ (joinL (nodeW l[k] k false) :: (if l[k].op = 9 then bodyLs l[k].body 0 ++ [endW] else [])) := by
  rw [List.take_succ_eq_append_getElem h, outLs_app, List.length_take, show 0 + min k l.length = k by omega]
  simp [outLs]
/-- a node that may be told, of small numbers -/
structure NOk (n : Nd) (i : Nat) (body : Bool) : Prop where
  x : ∃ (o k f m : Nat) (ins : List Int) (bd : List Nd), n = .mk o ins k f m bd ∧ o < 12 ∧ k < 24 ∧ f < 9223372036854775808 ∧ m < 9223372036854775808 ∧ (∀ x ∈ ins, 0 ≤ x ∧ x < 9223372036854775808) ∧ ins.length ≤ 1000 ∧ mayB n body = true ∧ (joinL (nodeW n i body)).length ≤ 100
theorem NOk.len {n : Nd} {i : Nat} {body : Bool} (h : NOk n i body) : (joinL (nodeW n i body)).length ≤ 100 := by
  obtain ⟨o, k, f, m, ins, bd, _, _, _, _, _, _, _, _, h⟩ := h.x
  exact h
theorem NOk.body9 {n : Nd} {i : Nat} (h : NOk n i true) : ¬ n.op = 9 := by
  intro h9
  obtain ⟨o, k, f, m, ins, bd, _, _, _, _, _, _, _, h, _⟩ := h.x
  unfold mayB at h
  rw [Bool.and_eq_true] at h
  have := h.1
  unfold standsB at this
  rw [h9] at this
  simp at this
theorem bodyLs_len (l : List Nd) (h : ∀ (i : Nat) (hi : i < l.length), NOk l[i] i true) : ∀ k, k ≤ l.length → (linesT (bodyLs (l.take k) 0)).length ≤ k * 101
  | 0, _ => by simp [bodyLs, linesT]
  | k + 1, hk => by
    rw [bodyLs_s l hk, linesT_app, linesT_one, List.length_append, List.length_append]
    have h1 := bodyLs_len l h k (by omega)
    have h2 := (h k hk).len
    simp only [List.length_singleton]
    omega
/-- nodes outside: each may be told, a loop's body too -/
structure NsOk (l : List Nd) : Prop where
  len : l.length ≤ 40
  n : ∀ (i : Nat) (hi : i < l.length), NOk l[i] i false
  b : ∀ (i : Nat) (hi : i < l.length), l[i].op = 9 → l[i].body.length ≤ 40 ∧ ∀ (j : Nat) (hj : j < l[i].body.length), NOk l[i].body[j] j true
theorem outLs_len (l : List Nd) (h : NsOk l) : ∀ k, k ≤ l.length → (linesT (outLs (l.take k) 0)).length ≤ k * 4200
  | 0, _ => by simp [outLs, linesT]
  | k + 1, hk => by
    rw [outLs_s l hk, linesT_app, List.length_append]
    have h1 := outLs_len l h k (by omega)
    have h2 := (h.n k hk).len
    by_cases h9 : l[k].op = 9
    · have h3 := h.b k hk h9
      have h4 := bodyLs_len l[k].body h3.2 l[k].body.length (Nat.le_refl _)
      rw [List.take_length] at h4
      rw [if_pos h9, ← List.singleton_append, linesT_app, linesT_app, linesT_one, linesT_one, List.length_append, List.length_append, List.length_append, List.length_append]
      simp only [List.length_singleton, endW, List.length_cons, List.length_nil]
      have h5 := h3.1
      have h6 : l[k].body.length * 101 ≤ 40 * 101 := Nat.mul_le_mul_right _ h5
      omega
    · rw [if_neg h9, linesT_one, List.length_append]
      simp only [List.length_singleton]
      omega
/-- what a writer needs of the world: tables, in w0 -/
structure Wtb (w0 : World) : Prop where
  t : Tab w0
  o : OpsT w0
  f : FnsT w0
attribute [local irreducible] RE OE OB GlT NodesR
theorem joinL_one (x : W) : joinL [x] = x := Lib.join_one x [32]
set_option maxRecDepth 100000 in
set_option maxHeartbeats 16000000 in
theorem wnodesB_any (d B p : Nat) (l : List UInt8) (v : Value) (ls : List Nd) (w0 w : World) (h : WB TW TB B p w l) (hv : NodesR d w0 v ls) (hx : Ext w0 w) (h0 : w0.heap.size ≤ B) (hB : B ≤ w.heap.size) (ht : Wtb w0) (hn : ∀ (i : Nat) (hi : i < ls.length), NOk ls[i] i true) (hlen : ls.length ≤ 40) (hl : l.length ≤ 700000) :
    Calls Tryz.prog 26 #[.pointer (some ⟨p, 0, none⟩), v, .bool true] w fun e w' => e = .returned (.tuple #[]) ∧ WB TW TB B p w' (l ++ linesT (bodyLs ls 0)) ∧ WF TB B p w w' := by
  have HW := Lib.hid h
  have HV := Lib.hid hv
  have HX := Lib.hid hx
  have H0 := Lib.hid h0
  have HBW := Lib.hid hB
  have HT := Lib.hid ht
  have HN := Lib.hid hn
  have HL := Lib.hid hl
  have HLN := Lib.hid hlen
  have hj40 := hlen
  obtain ⟨A, c, rfl⟩ := hv.form
  clear h hv hx h0 hB ht hn hl
  go_enter Tryz.func26, Tryz.ntmps26
  go_wp2
  go_loopw [10] (fun iv wr => ∃ j : Nat, j ≤ ls.length ∧ iv = .int .i64 (j : Int) ∧ WB TW TB B p wr (l ++ linesT (bodyLs (ls.take j) 0)) ∧ WF TB B p w wr) (fun iv _ => ls.length - (intOf iv).toNat)
  case atStart => exact ⟨0, Nat.zero_le _, rfl, by simpa [bodyLs, linesT] using HW.out, WF.refl _ _ _ _⟩
  case round =>
    obtain ⟨j, hj, rfl, hw, hb⟩ := hrel
    rename World => wr
    have HWR := Lib.hid hw
    have HBR := Lib.hid hb
    have HXR := Lib.hid (show Ext w0 wr from Below.trans HX.out (Below.mono hb.b H0.out))
    have HBZ := Lib.hid (show B ≤ wr.heap.size from Nat.le_trans HBW.out hb.b.size)
    clear hw hb
    by_cases hlt : j < ls.length
    · have q1 : (j : Int) < (ls.length : Int) := by omega
      have q1n := hlt
      have q0 : 0 ≤ (j : Int) := by omega
      have HLT := Lib.hid hlt
      obtain ⟨bN, oN, u, bv, rfl, z0, z1, z2, z3, z4, z5, hu, hbv⟩ := NodesR.at_ HV.out hlt
      replace z0 := HXR.out.cell z0
      replace z1 := HXR.out.cell z1
      replace z2 := HXR.out.cell z2
      replace z3 := HXR.out.cell z3
      replace z4 := HXR.out.cell z4
      replace z5 := HXR.out.cell z5
      have HU := Lib.hid hu
      have HBV := Lib.hid hbv
      have HOK := Lib.hid (HN.out j hlt)
      have HS := Lib.hid (bodyLs_s ls hlt)
      have HLE := Lib.hid (bodyLs_len ls HN.out j (by omega))
      generalize ls[j]'hlt = nd at *
      obtain ⟨o, k, f, m, ins, bd, rfl, ho, hk, hf, hm, hi, hil, hmay, hjl⟩ := HOK.out.x
      dsimp only [Nd.op, Nd.ins, Nd.kind, Nd.fa, Nd.a, Nd.body] at z0 z1 z2 z3 z4 z5 hu hbv HU HBV HS
      obtain ⟨Au, cu, rfl⟩ := hu.form
      obtain ⟨Ab, cb, rfl⟩ := hbv.form
      have hal := (Ext.refl wr).alloc (ndCs o k f m (.slice Au ins.length cu) (.slice Ab bd.length cb))
      have HB7 := Lib.hid (Bx6.new wr 57 (.int .i64 o) (.slice Au ins.length cu) (.int .i64 k) (.int .i64 f) (.int .i64 m) (.slice Ab bd.length cb))
      have HW7 := Lib.hid (HWR.out.ext hal)
      have HX7 := Lib.hid (HXR.out.trans hal)
      have HBB7 := Lib.hid (HBR.out.trans (WF.of hal HBZ.out))
      have HBZ7 := Lib.hid (Nat.le_trans HBZ.out hal.size)
      have HCN := Lib.hid (fun W (hx : Ext wr W) (hx0 : Ext w0 W) => lnode_any o k f m j true (.slice Au ins.length cu) (.slice Ab bd.length cb) ins bd W (RE.ext HU.out hx0) ⟨_, _, rfl⟩ hmay ho hk hf hm (by omega) hi hil (by omega) (HT.out.t.ext hx0) (HT.out.o.ext hx0) (HT.out.f.ext hx0))
      have HJL := Lib.hid hjl
      have h9 : ¬ (o : Int) = 9 := HOK.out.body9
      have b9 : ((o : Int) == 9) = false := by simpa using h9
      clear hlt hj hu hbv ho hk hf hm hi hil hmay hjl HOK
      generalize joinL (nodeW (.mk o ins k f m bd) j true) = line at *
      generalize hP : l ++ linesT (bodyLs (ls.take j) 0) = P at *
      have HPL := Lib.hid (show P.length ≤ 700000 + j * 101 from by rw [← hP, List.length_append]; have := HL.out; have := HLE.out; omega)
      have HPE := Lib.hid hP
      clear hP HLE
      go_upto_region 3 with fail
      obtain ⟨p7, hp7⟩ : ∃ p7, p7 = wr.heap.size := ⟨_, rfl⟩
      rw [← hp7] at HB7 ⊢
      have HP7 := Lib.hid hp7
      clear hp7 z0 z1 z2 z3 z4 z5
      have HXW := Lib.hid hal
      clear hal
      generalize wr.alloc (ndCs o k f m (.slice Au ins.length cu) (.slice Ab bd.length cb)) = w7 at *
      obtain ⟨c0, c1, c2, c3, c4, c5⟩ := HB7.out.at_
      go_wp2_with fail
      refine (HCN.out w7 HXW.out HX7.out).mono ?_
      rintro e w8 ⟨rfl, he8⟩
      have hal8 : Ext w8 (w8.alloc (.cells #[strV line] 9)) := (Ext.refl _).alloc _
      have HLI := Lib.hid (word_lit29 w8 line)
      have HW8 := Lib.hid ((HW7.out.ext he8).ext hal8)
      have HX8 := Lib.hid ((HX7.out.trans he8).trans hal8)
      have HB8 := Lib.hid ((HB7.out.ext he8).ext hal8)
      have HBZ8 := Lib.hid (Nat.le_trans HBZ7.out (Nat.le_trans he8.size hal8.size))
      have HBB8 := Lib.hid (HBB7.out.trans (WF.of (he8.trans hal8) HBZ7.out))
      have HCL := Lib.hid (wline_any B p P _ [line] _ HW8.out HLI.out (by simp) HBZ8.out (by rw [joinL_one]; have h1 := HPL.out; have h2 := HJL.out; omega))
      rw [joinL_one] at HCL
      have HOL := Lib.hid (show p7 ≠ p ∧ (B ≤ p7 ∧ p7 < w8.heap.size) from ⟨by have h1 := HWR.out.lt; have h2 := HP7.out; omega, by have h1 := HBZ.out; have h2 := HP7.out; omega, Nat.lt_of_lt_of_le HB7.out.b.lt he8.size⟩)
      clear he8 hal8 c0 c1 c2 c3 c4 c5
      go_wp2_with fail
      refine HCL.out.mono ?_
      rintro e w9 ⟨rfl, hw9, hb9⟩
      have HB9 := Lib.hid (show Bx6 w9 p7 57 _ _ _ _ _ _ from ⟨La.Blk.wf HB8.out.b hb9 HOL.out.1 (by decide)⟩)
      have HW9 := Lib.hid hw9
      have HBB9 := Lib.hid (HBB8.out.trans hb9)
      have HBX := Lib.hid hb9
      clear hw9 hb9
      obtain ⟨c0, c1, c2, c3, c4, c5⟩ := HB9.out.at_
      go_wp2
      exact ⟨⟨j + 1, HLT.out, by go_num, by rw [HS.out, linesT_app, linesT_one, ← List.append_assoc, HPE.out]; exact HW9.out, HBB9.out⟩, by have := HLT.out; simp [intOf]; omega⟩
    · have q1 : ¬ (j : Int) < (ls.length : Int) := by omega
      obtain rfl : j = ls.length := by omega
      have h9 := HWR.out
      rw [List.take_length] at h9
      have H9 := Lib.hid h9
      clear h9 hlt hj
      go_wp2
      go_end0
      exact ⟨rfl, H9.out, HBR.out⟩
set_option maxRecDepth 100000 in
set_option maxHeartbeats 16000000 in
theorem wnodes_any (d B p : Nat) (l : List UInt8) (v : Value) (ls : List Nd) (w0 w : World) (h : WB TW TB B p w l) (hv : NodesR d w0 v ls) (hx : Ext w0 w) (h0 : w0.heap.size ≤ B) (hB : B ≤ w.heap.size) (ht : Wtb w0) (hn : NsOk ls) (hl : l.length ≤ 500000) :
    Calls Tryz.prog 26 #[.pointer (some ⟨p, 0, none⟩), v, .bool false] w fun e w' => e = .returned (.tuple #[]) ∧ WB TW TB B p w' (l ++ linesT (outLs ls 0)) ∧ WF TB B p w w' := by
  have HW := Lib.hid h
  have HV := Lib.hid hv
  have HX := Lib.hid hx
  have H0 := Lib.hid h0
  have HBW := Lib.hid hB
  have HT := Lib.hid ht
  have HN := Lib.hid hn
  have HL := Lib.hid hl
  have hj40 := hn.len
  obtain ⟨A, c, rfl⟩ := hv.form
  clear h hv hx h0 hB ht hn hl
  go_enter Tryz.func26, Tryz.ntmps26
  go_wp2
  go_loopw [10] (fun iv wr => ∃ j : Nat, j ≤ ls.length ∧ iv = .int .i64 (j : Int) ∧ WB TW TB B p wr (l ++ linesT (outLs (ls.take j) 0)) ∧ WF TB B p w wr) (fun iv _ => ls.length - (intOf iv).toNat)
  case atStart => exact ⟨0, Nat.zero_le _, rfl, by simpa [outLs, linesT] using HW.out, WF.refl _ _ _ _⟩
  case round =>
    obtain ⟨j, hj, rfl, hw, hb⟩ := hrel
    rename World => wr
    have HWR := Lib.hid hw
    have HBR := Lib.hid hb
    have HXR := Lib.hid (show Ext w0 wr from Below.trans HX.out (Below.mono hb.b H0.out))
    have HBZ := Lib.hid (show B ≤ wr.heap.size from Nat.le_trans HBW.out hb.b.size)
    clear hw hb
    by_cases hlt : j < ls.length
    · have q1 : (j : Int) < (ls.length : Int) := by omega
      have q1n := hlt
      have q0 : 0 ≤ (j : Int) := by omega
      have HLT := Lib.hid hlt
      obtain ⟨bN, oN, u, bv, rfl, z0, z1, z2, z3, z4, z5, hu, hbv⟩ := NodesR.at_ HV.out hlt
      replace z0 := HXR.out.cell z0
      replace z1 := HXR.out.cell z1
      replace z2 := HXR.out.cell z2
      replace z3 := HXR.out.cell z3
      replace z4 := HXR.out.cell z4
      replace z5 := HXR.out.cell z5
      have HU := Lib.hid hu
      have HBV := Lib.hid hbv
      have HOK := Lib.hid (HN.out.n j hlt)
      have HS := Lib.hid (outLs_s ls hlt)
      have HLE := Lib.hid (outLs_len ls HN.out j (by omega))
      have HBO := Lib.hid (HN.out.b j hlt)
      generalize ls[j]'hlt = nd at *
      obtain ⟨o, k, f, m, ins, bd, rfl, ho, hk, hf, hm, hi, hil, hmay, hjl⟩ := HOK.out.x
      dsimp only [Nd.op, Nd.ins, Nd.kind, Nd.fa, Nd.a, Nd.body] at z0 z1 z2 z3 z4 z5 hu hbv HU HBV HS HBO
      obtain ⟨Au, cu, rfl⟩ := hu.form
      obtain ⟨Ab, cb, rfl⟩ := hbv.form
      have hal := (Ext.refl wr).alloc (ndCs o k f m (.slice Au ins.length cu) (.slice Ab bd.length cb))
      have HB7 := Lib.hid (Bx6.new wr 57 (.int .i64 o) (.slice Au ins.length cu) (.int .i64 k) (.int .i64 f) (.int .i64 m) (.slice Ab bd.length cb))
      have HW7 := Lib.hid (HWR.out.ext hal)
      have HX7 := Lib.hid (HXR.out.trans hal)
      have HBB7 := Lib.hid (HBR.out.trans (WF.of hal HBZ.out))
      have HBZ7 := Lib.hid (Nat.le_trans HBZ.out hal.size)
      have HCN := Lib.hid (fun W (hx : Ext wr W) (hx0 : Ext w0 W) => lnode_any o k f m j false (.slice Au ins.length cu) (.slice Ab bd.length cb) ins bd W (RE.ext HU.out hx0) ⟨_, _, rfl⟩ hmay ho hk hf hm (by omega) hi hil (by omega) (HT.out.t.ext hx0) (HT.out.o.ext hx0) (HT.out.f.ext hx0))
      have HJL := Lib.hid hjl
      clear hlt hj hu hbv ho hk hf hm hi hil hmay hjl HOK
      generalize joinL (nodeW (.mk o ins k f m bd) j false) = line at *
      generalize hP : l ++ linesT (outLs (ls.take j) 0) = P at *
      have HPL := Lib.hid (show P.length ≤ 500000 + j * 4200 from by rw [← hP, List.length_append]; have := HL.out; have := HLE.out; omega)
      have HPE := Lib.hid hP
      clear hP HLE
      go_upto_region 3 with fail
      obtain ⟨p7, hp7⟩ : ∃ p7, p7 = wr.heap.size := ⟨_, rfl⟩
      rw [← hp7] at HB7 ⊢
      have HP7 := Lib.hid hp7
      clear hp7 z0 z1 z2 z3 z4 z5
      have HXW := Lib.hid hal
      clear hal
      generalize wr.alloc (ndCs o k f m (.slice Au ins.length cu) (.slice Ab bd.length cb)) = w7 at *
      obtain ⟨c0, c1, c2, c3, c4, c5⟩ := HB7.out.at_
      go_wp2_with fail
      refine (HCN.out w7 HXW.out HX7.out).mono ?_
      rintro e w8 ⟨rfl, he8⟩
      have hal8 : Ext w8 (w8.alloc (.cells #[strV line] 9)) := (Ext.refl _).alloc _
      have HLI := Lib.hid (word_lit29 w8 line)
      have HW8 := Lib.hid ((HW7.out.ext he8).ext hal8)
      have HX8 := Lib.hid ((HX7.out.trans he8).trans hal8)
      have HB8 := Lib.hid ((HB7.out.ext he8).ext hal8)
      have HBZ8 := Lib.hid (Nat.le_trans HBZ7.out (Nat.le_trans he8.size hal8.size))
      have HBB8 := Lib.hid (HBB7.out.trans (WF.of (he8.trans hal8) HBZ7.out))
      have HCL := Lib.hid (wline_any B p P _ [line] _ HW8.out HLI.out (by simp) HBZ8.out (by rw [joinL_one]; have h1 := HPL.out; have h2 := HJL.out; omega))
      rw [joinL_one] at HCL
      have HOL := Lib.hid (show p7 ≠ p ∧ (B ≤ p7 ∧ p7 < w8.heap.size) from ⟨by have h1 := HWR.out.lt; have h2 := HP7.out; omega, by have h1 := HBZ.out; have h2 := HP7.out; omega, Nat.lt_of_lt_of_le HB7.out.b.lt he8.size⟩)
      clear he8 hal8 c0 c1 c2 c3 c4 c5
      go_wp2_with fail
      refine HCL.out.mono ?_
      rintro e w9 ⟨rfl, hw9, hb9⟩
      have HB9 := Lib.hid (show Bx6 w9 p7 57 _ _ _ _ _ _ from ⟨La.Blk.wf HB8.out.b hb9 HOL.out.1 (by decide)⟩)
      have HW9 := Lib.hid hw9
      have HBB9 := Lib.hid (HBB8.out.trans hb9)
      have HBX := Lib.hid hb9
      clear hw9 hb9
      obtain ⟨c0, c1, c2, c3, c4, c5⟩ := HB9.out.at_
      by_cases h9 : (o : Int) = 9
      · have HBO2 := Lib.hid (HBO.out h9)
        have HS3 := Lib.hid (show outLs (ls.take (j + 1)) 0 = outLs (ls.take j) 0 ++ (line :: (bodyLs bd 0 ++ [endW])) from HS.out.trans (congrArg (fun x => outLs (ls.take j) 0 ++ line :: x) (if_pos h9)))
        have HX9 := Lib.hid (show Ext w0 w9 from Below.trans HX8.out (Below.mono HBX.out.b H0.out))
        have HBZ9 := Lib.hid (Nat.le_trans HBZ8.out HBX.out.b.size)
        have HCB := Lib.hid (wnodesB_any (d - 1) B p (P ++ (line ++ [10])) (.slice Ab bd.length cb) bd w0 w9 HW9.out HBV.out HX9.out H0.out HBZ9.out HT.out HBO2.out.2 HBO2.out.1 (by have h1 := HPL.out; have h2 := HJL.out; simp; omega))
        have HBL := Lib.hid (bodyLs_len bd HBO2.out.2 bd.length (Nat.le_refl _))
        rw [List.take_length] at HBL
        have HB40 := Lib.hid HBO2.out.1
        have hoo : o = 9 := by omega
        subst hoo
        clear HS h9
        generalize hBT : linesT (bodyLs bd 0) = BT at *
        have HBT := Lib.hid hBT
        clear hBT
        go_wp2_with fail
        refine HCB.out.mono ?_
        rintro e w10 ⟨rfl, hw10, hb10⟩
        have hal10 : Ext w10 (w10.alloc (.cells #[strV endW] 9)) := (Ext.refl _).alloc _
        have HW10 := Lib.hid (hw10.ext hal10)
        have HLE := Lib.hid (word_lit29 w10 endW)
        have HBZ10 := Lib.hid (Nat.le_trans HBZ9.out (Nat.le_trans hb10.b.size hal10.size))
        have HBB10 := Lib.hid (HBB9.out.trans (hb10.trans (WF.of hal10 (Nat.le_trans HBZ9.out hb10.b.size))))
        have HCE := Lib.hid (wline_any B p (P ++ (line ++ [10]) ++ BT) _ [endW] _ HW10.out HLE.out (by simp) HBZ10.out (by rw [joinL_one]; have h1 := HPL.out; have h2 := HJL.out; have h3 := HBL.out; have h4 := HB40.out; have h5 : bd.length * 101 ≤ 40 * 101 := Nat.mul_le_mul_right _ h4; simp [endW]; omega))
        rw [joinL_one] at HCE
        clear hw10 hb10 hal10
        go_wp2_with fail
        refine HCE.out.mono ?_
        rintro e w11 ⟨rfl, hw11, hb11⟩
        have HW11 := Lib.hid hw11
        have HBB11 := Lib.hid (HBB10.out.trans hb11)
        clear hw11 hb11
        go_wp2
        exact ⟨⟨j + 1, HLT.out, by go_num, by
          rw [HS3.out, linesT_app, ← List.singleton_append, linesT_app, linesT_app, linesT_one, linesT_one, HBT.out, ← List.append_assoc, HPE.out]
          have h1 := HW11.out
          simp only [List.append_assoc] at h1 ⊢
          exact h1, HBB11.out⟩, by have := HLT.out; simp [intOf]; omega⟩
      · have b9 : ((o : Int) == 9) = false := by simpa using h9
        have HS3 := Lib.hid (show outLs (ls.take (j + 1)) 0 = outLs (ls.take j) 0 ++ [line] from HS.out.trans (congrArg (fun x => outLs (ls.take j) 0 ++ line :: x) (if_neg h9)))
        clear HS h9
        go_wp2
        exact ⟨⟨j + 1, HLT.out, by go_num, by rw [HS3.out, linesT_app, linesT_one, ← List.append_assoc, HPE.out]; exact HW9.out, HBB9.out⟩, by have := HLT.out; simp [intOf]; omega⟩
    · have q1 : ¬ (j : Int) < (ls.length : Int) := by omega
      obtain rfl : j = ls.length := by omega
      have h9 := HWR.out
      rw [List.take_length] at h9
      have H9 := Lib.hid h9
      clear h9 hlt hj
      go_wp2
      go_end0
      exact ⟨rfl, H9.out, HBR.out⟩
end Go.Proofs.YtpmgmiiidfconaaGreatDoor
set_option linter.unusedVariables false
set_option linter.unusedSimpArgs false
namespace Go.Proofs.YtpmgmiiidfconaaGreatDoor
open Go.RowKit Go.Ox Go.Ox.Gr Go.Ox.Sc Go.Ox.La Go.Shelf
theorem linesT_cons (x : W) (L : List W) : linesT (x :: L) = x ++ 10 :: linesT L := by simp [linesT]
theorem index_line : ∀ (l r : List UInt8), (10 : UInt8) ∉ l → Lib.index (l ++ 10 :: r) [10] = (l.length : Int)
  | [], r, _ => by simp [Lib.index]
  | b :: l, r, h => by
    have hb : b ≠ 10 := fun e => h (by rw [e]; exact List.mem_cons_self ..)
    have ih := index_line l r (fun hm => h (List.mem_cons_of_mem _ hm))
    rw [List.cons_append, Lib.index, ih]
    have h1 : ([10] : List UInt8).isPrefixOf (b :: (l ++ 10 :: r)) = false := by
      simp [List.isPrefixOf]
      exact fun e => hb e.symm
    have h2 : ((l.length : Int) == -1) = false := by simp
    rw [h1, h2]
    simp
theorem count_lines : ∀ (L : List W), (∀ l ∈ L, (10 : UInt8) ∉ l) → Lib.count (linesT L) [10] = L.length
  | [], _ => by decide
  | x :: L, h => by
    have ih := count_lines L (fun l hl => h l (List.mem_cons_of_mem _ hl))
    rw [Lib.count_one] at ih ⊢
    rw [linesT_cons, List.count_append, List.count_cons_self, ih, List.count_eq_zero_of_not_mem (h x (List.mem_cons_self ..))]
    simp
theorem split_lines : ∀ (L : List W), (∀ l ∈ L, (10 : UInt8) ∉ l) → Lib.splitK [10] 0 L.length (linesT L) = L ++ [[]]
  | [], _ => rfl
  | x :: L, h => by
    have ih := split_lines L (fun l hl => h l (List.mem_cons_of_mem _ hl))
    have hi := index_line x (linesT L) (h x (List.mem_cons_self ..))
    rw [linesT_cons, List.length_cons, Lib.splitK, hi]
    have h2 : ((x.length : Int) == -1) = false := by simp
    rw [h2, if_neg (by decide)]
    have h3 : ((x.length : Int)).toNat = x.length := by omega
    rw [h3, Nat.add_zero, List.take_left]
    have h4 : (x ++ 10 :: linesT L).drop (x.length + ([10] : List UInt8).length) = linesT L := by
      rw [List.length_singleton, List.drop_append]
      simp
    rw [h4, ih, List.cons_append]
set_option maxRecDepth 100000 in
set_option maxHeartbeats 4000000 in
theorem split10_any (L : List W) (w : World) (hL : ∀ l ∈ L, (10 : UInt8) ∉ l) (hs : (linesT L).length ≤ 1000000) (hl : L.length ≤ 999999) (hm : MaxL w) :
    Calls Tryz.prog 32 #[strV (linesT L), .string ⟨#[10]⟩] w fun e w' => e = .returned (.slice (some ⟨w.heap.size, 0, none⟩) (L.length + 1) (L.length + 1)) ∧ RE w' (.slice (some ⟨w.heap.size, 0, none⟩) (L.length + 1) (L.length + 1)) (L ++ [[]]) ∧ Ext w w' := by
  obtain ⟨m, hm⟩ := hm
  refine (Any.strings_Split Tryz.splitL (by kernel_rfl) ⟨(linesT L).toArray⟩ ⟨#[10]⟩ m w (by simp [ByteArray.size]; omega) hm (by decide)).mono ?_
  rintro e w' ⟨rfl, rfl⟩
  have hc : Lib.countB ⟨(linesT L).toArray⟩ ⟨#[10]⟩ = L.length := count_lines L hL
  have hd := Lib.splitB_data ⟨#[10]⟩ 0 L.length ⟨(linesT L).toArray⟩
  rw [show (⟨(linesT L).toArray⟩ : ByteArray).data.toList = linesT L from rfl, show (⟨#[10]⟩ : ByteArray).data.toList = [10] from rfl, split_lines L hL] at hd
  rw [hc]
  refine ⟨rfl, ?_, (Ext.refl w).alloc _⟩
  have hcs : ((Lib.splitB ⟨#[10]⟩ 0 L.length ⟨(linesT L).toArray⟩).map Value.string) = eV (L ++ [[]]) := by
    rw [← hd, ← eV_strs, List.map_map, List.map_map]
    apply List.map_congr_left
    intro b _
    rfl
  exact RE.lit w _ _ (L.length + 1) (L ++ [[]]) (by simp) (by omega) hcs
end Go.Proofs.YtpmgmiiidfconaaGreatDoor
