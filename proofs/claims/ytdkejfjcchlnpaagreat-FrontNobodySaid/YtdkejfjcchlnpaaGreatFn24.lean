/-
  PlMath, GrNamed, GrNodeAt2, packed: what the claim needs of them.
-/
import Derived.Test.YtdkejfjcchlnpaaGreatFn20
import Derived.Test.YtdkejfjcchlnpaaGreatFn18
set_option maxHeartbeats 40000000
open Go.Lib (hid)
set_option linter.unusedSimpArgs false
set_option linter.unusedVariables false
set_option maxRecDepth 100000
namespace Go.Ox.Pl
open Go.Sort
def ltK (a b : Mom.M × Mom.M) : Prop := Mom.lt a.1 b.1 ∨ (a.1 = b.1 ∧ Mom.lt a.2 b.2)
theorem a3h (a : Mom.M × Mom.M) : ¬ ltK a a := by
 unfold ltK Mom.lt; omega
theorem a6q {a b c : Mom.M × Mom.M} (h1 : ltK a b) (h2 : ltK b c) : ltK a c := by
 obtain ⟨⟨a1, a2⟩, a3, a4⟩ := a;obtain ⟨⟨b1, b2⟩, b3, b4⟩ := b;obtain ⟨⟨c1, c2⟩, c3, c4⟩ := c;unfold ltK Mom.lt at *;simp only [Prod.mk.injEq] at *;omega
theorem b1Y (a b : Mom.M × Mom.M) : ltK a b ∨ a = b ∨ ltK b a := by
 obtain ⟨⟨a1, a2⟩, a3, a4⟩ := a;obtain ⟨⟨b1, b2⟩, b3, b4⟩ := b;unfold ltK Mom.lt;simp only [Prod.mk.injEq];omega
theorem a9X : ∀ (l r : List Ar), l.Pairwise (fun a b => ltK a.1 b.1) → r.Pairwise (fun a b => ltK a.1 b.1) → (∀ x, x ∈ l ↔ x ∈ r) → l = r
 | [], [], _, _, _ => rfl
 | [], y :: r, _, _, h => by have := (h y).2 (by simp); simp at this
 | x :: l, [], _, _, h => by have := (h x).1 (by simp); simp at this
 | x :: l, y :: r, hl, hr, h => by
  rw [List.pairwise_cons] at hl hr
  have hxy : x = y := by
   have h1 := (h x).1 (by simp)
   have h2 := (h y).2 (by simp)
   rcases List.mem_cons.1 h1 with e | e
   · exact e
   · rcases List.mem_cons.1 h2 with e2 | e2
     · exact e2.symm
     · exact absurd (a6q (hr.1 x e) (hl.1 y e2)) (a3h _)
  subst hxy;rw [a9X l r hl.2 hr.2 (fun z => ?_)]
  have hz := h z;constructor
  · intro q
    rcases List.mem_cons.1 (hz.1 (List.mem_cons_of_mem _ q)) with e | e
    · subst e; exact absurd (hl.1 _ q) (a3h _)
    · exact e
  · intro q
    rcases List.mem_cons.1 (hz.2 (List.mem_cons_of_mem _ q)) with e | e
    · subst e; exact absurd (hr.1 _ q) (a3h _)
    · exact e
abbrev b3I (l : List Ar) : Prop := l.Pairwise fun a b => ¬ ltK b.1 a.1
theorem a5M : ∀ (r : List Ar) (x y : Ar), y ∈ ddF x r → y ∈ r
 | [], x, y, h => by simp [ddF] at h
 | z :: r, x, y, h => by
  unfold ddF at h
  split at h
  · exact List.mem_cons_of_mem _ (a5M r z y h)
  · rcases List.mem_cons.1 h with e | e
    · subst e; simp
    · exact List.mem_cons_of_mem _ (a5M r z y e)
theorem a9Y : ∀ (r : List Ar) (x : Ar), b3I (x :: r) → (∀ y ∈ ddF x r, ltK x.1 y.1) ∧ (ddF x r).Pairwise (fun a b => ltK a.1 b.1)
 | [], x, h => by simp [ddF]
 | z :: r, x, h => by
  unfold b3I at h;rw [List.pairwise_cons, List.pairwise_cons] at h;obtain ⟨h1, h2, h3⟩ := h;obtain ⟨k1, k2⟩ := a9Y r z (List.pairwise_cons.2 ⟨h2, h3⟩);unfold ddF
  by_cases q : z.1 = x.1
  · rw [if_pos q, ← q]; exact ⟨k1, k2⟩
  · rw [if_neg q]
    have hxz : ltK x.1 z.1 := by
     rcases b1Y x.1 z.1 with e | e | e
     · exact e
     · exact absurd e.symm q
     · exact absurd e (h1 z (by simp))
    refine ⟨fun y hy => ?_, List.pairwise_cons.2 ⟨k1, k2⟩⟩
    rcases List.mem_cons.1 hy with e | e
    · subst e; exact hxz
    · exact a6q hxz (k1 y e)
theorem a73 : ∀ (r : List Ar) (x y : Ar), y ∈ r → y.1 = x.1 ∨ ∃ z ∈ ddF x r, z.1 = y.1
 | [], x, y, h => by simp at h
 | z :: r, x, y, h => by
  unfold ddF
  by_cases q : z.1 = x.1
  · rw [if_pos q]
    rcases List.mem_cons.1 h with e | e
    · subst e; exact .inl q
    · rcases a73 r z y e with k | k
      · exact .inl (k.trans q)
      · exact .inr k
  · rw [if_neg q]
    rcases List.mem_cons.1 h with e | e
    · subst e; exact .inr ⟨y, by simp, rfl⟩
    · rcases a73 r z y e with k | ⟨t, k1, k2⟩
      · exact .inr ⟨z, by simp, k.symm⟩
      · exact .inr ⟨t, List.mem_cons_of_mem _ k1, k2⟩
theorem dd_asc {l : List Ar} (h : b3I l) : (dd l).Pairwise (fun a b => ltK a.1 b.1) := by
 cases l with
 | nil => exact List.Pairwise.nil
 | cons x r => exact List.pairwise_cons.2 (a9Y r x h)
theorem dd_mem {l : List Ar} (hu : ∀ a ∈ l, ∀ b ∈ l, a.1 = b.1 → a = b) (y : Ar) : y ∈ dd l ↔ y ∈ l := by
 cases l with
 | nil => rfl
 | cons x r =>
 unfold dd;constructor
 · intro h
   rcases List.mem_cons.1 h with e | e
   · subst e; simp
   exact List.mem_cons_of_mem _ (a5M r x y e)
 intro h
 rcases List.mem_cons.1 h with e | e
 · subst e; simp
 rcases a73 r x y e with k | ⟨z, k1, k2⟩
 · have := hu y (List.mem_cons_of_mem _ e) x (by simp) k
   subst this; simp
 have := hu z (List.mem_cons_of_mem _ (a5M r x z k1)) y (List.mem_cons_of_mem _ e) k2;subst this; exact List.mem_cons_of_mem _ k1
theorem dd_is {a0 s c : List Ar} (hp : s.Perm a0) (hs : b3I s) (hu : ∀ a ∈ a0, ∀ b ∈ a0, a.1 = b.1 → a = b) (hc : c.Pairwise (fun a b => ltK a.1 b.1)) (hm : ∀ x, x ∈ a0 ↔ x ∈ c) : dd s = c :=
 a9X _ _ (dd_asc hs) hc fun x => by
  rw [dd_mem (fun a ha b hb => hu a (hp.mem_iff.1 ha) b (hp.mem_iff.1 hb)), hp.mem_iff, hm]
end Go.Ox.Pl
namespace Go.Proofs.YtdkejfjcchlnpaaGreat
open Go.RowKit Go.Ox Go.Ox.Gr
attribute [local irreducible] RE OE a00
end Go.Proofs.YtdkejfjcchlnpaaGreat
namespace Go.Proofs.YtdkejfjcchlnpaaGreat
open Go.RowKit Go.Ox Go.Ox.Gr
abbrev Po := Pl × Int
instance encPo : Enc Po where
 k := 3
 enc x := [.int .i64 x.1.1, .int .i64 x.1.2, .int .i64 x.2]
 len _ := rfl
 pos := by omega
 one x u hu := by simp at hu; rcases hu with rfl | rfl | rfl <;> rfl
attribute [local irreducible] RE OE a00
end Go.Proofs.YtdkejfjcchlnpaaGreat
namespace Go.Ox.Gr
def nmN (name : Int) (p : Int × Int) (ins : List Int) : List ((Int × Int) × Int) := ins.zipIdx.filterMap fun x => if x.1 = name then some (p, (x.2 : Int)) else none
theorem nmN_s (name : Int) (p : Int × Int) (ins : List Int) {k : Nat} (h : k < ins.length) : nmN name p (ins.take (k + 1)) = nmN name p (ins.take k) ++ (if ins[k] = name then [(p, (k : Int))] else []) := by
 unfold nmN;rw [List.take_succ_eq_append_getElem h, List.zipIdx_append, List.filterMap_append]
 congr 1
 have : (ins.take k).length = k := by rw [List.length_take]; omega
 rw [this]
 by_cases q : ins[k] = name <;> simp [q]
theorem a9Z (name : Int) (p : Int × Int) (ins : List Int) : (nmN name p ins).length ≤ ins.length := by
 unfold nmN;refine Nat.le_trans (List.length_filterMap_le _ _) (by simp)
def a0W (name : Int) (f : Nat → Int × Int) : List Nd → Nat → List ((Int × Int) × Int)
 | [], _ => []
 | n :: l, i => nmN name (f i) n.ins ++ a0W name f l (i + 1)
def a0A (name : Int) (f : Nat → Int × Int) (l : List Nd) : List ((Int × Int) × Int) := a0W name f l 0
theorem a5a (name : Int) (f : Nat → Int × Int) : ∀ (l r : List Nd) (i : Nat), a0W name f (l ++ r) i = a0W name f l i ++ a0W name f r (i + l.length)
 | [], r, i => by simp [a0W]
 | n :: l, r, i => by
  simp only [List.cons_append, a0W, List.length_cons, a5a name f l r (i + 1), List.append_assoc];rw [show i + 1 + l.length = i + (l.length + 1) by omega]
theorem b1Z (name : Int) (f : Nat → Int × Int) (l : List Nd) {k : Nat} (h : k < l.length) : a0A name f (l.take (k + 1)) = a0A name f (l.take k) ++ nmN name (f k) l[k].ins := by
 unfold a0A;rw [List.take_succ_eq_append_getElem h, a5a, List.length_take, Nat.min_eq_left (by omega), Nat.zero_add]
 simp [a0W]
theorem a5b (name : Int) (f : Nat → Int × Int) : ∀ (l : List Nd) (i : Nat), (∀ n ∈ l, n.ins.length ≤ 100) → (a0W name f l i).length ≤ l.length * 100
 | [], _, _ => by simp [a0W]
 | n :: l, i, h => by
  have h1 := a5b name f l (i + 1) fun m hm => h m (List.mem_cons_of_mem _ hm)
  have h2 := h n List.mem_cons_self;have h3 := a9Z name (f i) n.ins;unfold a0W;rw [List.length_append, List.length_cons];omega
theorem a5c (name : Int) (f : Nat → Int × Int) (l : List Nd) (k : Nat) (h : ∀ n ∈ l, n.ins.length ≤ 100) (hl : l.length ≤ 100) : (a0A name f (l.take k)).length ≤ 10000 := by
 have := a5b name f (l.take k) 0 fun n hn => h n (List.mem_of_mem_take hn)
 rw [List.length_take] at this;unfold a0A;omega
end Go.Ox.Gr
namespace Go.Proofs.YtdkejfjcchlnpaaGreat
open Go.RowKit Go.Ox Go.Ox.Gr
attribute [local irreducible] RE OE a00
theorem b2O : Elem Tryz.prog 207 210 (.agg #[.int .i64 0, .int .i64 0, .int .i64 0]) 3 24 := Elem.mk' Tryz.underlying207 (by kernel_rfl) rfl (by omega)
theorem a6r (name : Int) (f : Nat → Pl) (g : Nat) (lb : Array Value) (eg : ∀ args w, (callFunc g args).run Tryz.prog w = .ok (.enter g args) w) (d : Nat) (v : Value) (l : List Nd) (w : World) (hv : a00 d w v l) (hl : l.length ≤ 100) (hil : ∀ n ∈ l, n.ins.length ≤ 100)
 (hcl : ∀ (i : Nat) W, Ext w W → Calls Tryz.prog g (#[.int .i64 (i : Int)] ++ lb) W fun e W' => e = .returned (plV (f i)) ∧ Ext W W') :
 Calls Tryz.prog 183 #[v, .int .i64 name, .func (.func g) #[] lb] w fun e w' => ∃ u, e = .returned u ∧ OE 210 w.heap.size w' u (a0A name f l) ∧ Ext w w' := by
 obtain ⟨A, c, rfl⟩ := hv.form;have HV := hid hv;have HL := hid hl;have HIL := hid (fun (k : Nat) (h : k < l.length) => hil l[k] (List.getElem_mem h))
 have HPL := hid (fun k => a5c name f l k hil hl)
 have HCL := hid hcl;clear hv hl hil hcl
 go_enter Tryz.func183, Tryz.ntmps183
 go_wp2
 go_loopw [7, 14] (fun o iv wr => ∃ k : Nat, k ≤ l.length ∧ iv = .int .i64 (k : Int) ∧ OE 210 w.heap.size wr o (a0A name f (l.take k)) ∧ Ext w wr) (fun _ iv _ => l.length - (intOf iv).toNat)
 case atStart => exact ⟨0, Nat.zero_le _, rfl, OE.a2F _ _ _, Ext.refl _⟩
 case round =>
 obtain ⟨k, hk, rfl, ho, hext⟩ := hrel;have HE := hid hext;have HO := hid ho;obtain ⟨AO, cO, hvo⟩ := ho.re.form;have hk100 : k ≤ 100 := by have := HL.o; omega
 by_cases hlt : k < l.length
 · have q1 : (k : Int) < (l.length : Int) := by omega
   have q0 : 0 ≤ (k : Int) := by omega
   have q1n : k < l.length := hlt;have HLT := hid hlt;obtain ⟨bA, oA, u, bv, rfl, e0, e1, e2, e3, e4, e5, hu, hbv⟩ := HV.o.at_ hlt;have HS := hid (b1Z name f l hlt);have HIK := hid (HIL.o k hlt);have HPK1 := hid (HPL.o (k + 1));rw [HS.o] at HPK1;generalize l[k] = x at *;obtain ⟨op, ins, kind, fa, a, body⟩ := x;simp only [Nd.op, Nd.kind, Nd.fa, Nd.a, Nd.ins, Nd.body] at e0 e2 e3 e4 hu hbv;have e0 := hext.cell e0;have e1 := hext.cell e1;have e2 := hext.cell e2;have e3 := hext.cell e3;have e4 := hext.cell e4;have e5 := hext.cell e5;replace HS := hid (show a0A name f (l.take (k + 1)) = a0A name f (l.take k) ++ nmN name (f k) ins from HS.o);replace HIK := hid (show ins.length ≤ 100 from HIK.o);replace HPK1 := hid (show (a0A name f (l.take k) ++ nmN name (f k) ins).length ≤ 10000 from HPK1.o);generalize a0A name f (l.take k) = pl at *;subst hvo;have HU := hid hu;obtain ⟨Au, cu, rfl⟩ := hu.form;obtain ⟨Ab, cb, rfl⟩ := hbv.form;have hxn := (Ext.refl wr).alloc (a0i op kind fa a (.slice Au ins.length cu) (.slice Ab body.length cb));have HXN := hid (HE.o.trans hxn);have HON := hid (ho.ext hxn);obtain ⟨y0, y1, y2, y3, y4, y5⟩ := (Bx6.new wr 101 (.int .i64 op) (.slice Au ins.length cu) (.int .i64 kind) (.int .i64 fa) (.int .i64 a) (.slice Ab body.length cb)).at_;clear ho hext hlt hk hu hbv hxn
   go_upto_region 5 with fail
   clear e0 e1 e2 e3 e4 e5;generalize wr.heap.size = q at *;generalize wr.alloc (a0i op kind fa a (.slice Au ins.length cu) (.slice Ab body.length cb)) = wn at *
   go_wp2
   clear y0 y1 y2 y3 y4 y5
   go_loopw [7, 22] (fun o iv wx => ∃ j : Nat, j ≤ ins.length ∧ iv = .int .i64 (j : Int) ∧ OE 210 w.heap.size wx o (pl ++ nmN name (f k) (ins.take j)) ∧ Ext w wx) (fun _ iv _ => ins.length - (intOf iv).toNat)
   case atStart => exact ⟨0, Nat.zero_le _, rfl, by rw [show nmN name (f k) (ins.take 0) = [] from rfl, List.append_nil]; exact HON.o, HXN.o⟩
   case round =>
   obtain ⟨j, hj, rfl, ho, hext⟩ := hrel;rename World => wx
   have HE2 := hid hext;have HO2 := hid ho;obtain ⟨AP, cP, hvo⟩ := ho.re.form;have hj100 : j ≤ 100 := by have := HIK.o; omega
   by_cases hlt : j < ins.length
   · have r1 : (j : Int) < (ins.length : Int) := by omega
     have r0 : 0 ≤ (j : Int) := by omega
     have r1n : j < ins.length := hlt;have HJT := hid hlt;obtain ⟨bI, oI, rfl, z0⟩ := ri1 (RE.ext HU.o hext) hlt;have HSJ := hid (nmN_s name (f k) ins hlt);have HPJ := hid (show (pl ++ nmN name (f k) (ins.take j)).length ≤ 20100 by have h1 := HPK1.o; have h2 := a9Z name (f k) (ins.take j); rw [List.length_append] at h1 ⊢; rw [List.length_take] at h2; omega)
     have HFK := hid (HCL.o k wx hext);generalize ins[j] = x at *;generalize f k = fp at *;obtain ⟨pa, pb⟩ := fp;clear hext hlt hj
     by_cases hq : x = name
     · rw [if_pos hq] at HSJ
       subst hq;have HAS := hid (show pl ++ nmN x (pa, pb) (ins.take (j + 1)) = (pl ++ nmN x (pa, pb) (ins.take j)) ++ [((pa, pb), (j : Int))] by rw [HSJ.o, List.append_assoc])
       generalize pl ++ nmN x (pa, pb) (ins.take j) = pj at *;subst hvo
       go_wp2_with fail
       refine HFK.o.mono ?_;rintro e w8 ⟨rfl, he8⟩;have HL1 := hid (RE.lit w8 #[.int .i64 pa, .int .i64 pb, .int .i64 (j : Int)] 210 1 [(((pa, pb), (j : Int)) : Po)] rfl (by omega) rfl)
       have HXA := hid ((Ext.refl w8).alloc (.cells #[.int .i64 pa, .int .i64 pb, .int .i64 (j : Int)] 210));have HOL := hid ((HO2.o.ext he8).ext HXA.o);have HXB := hid ((HE2.o.trans he8).trans HXA.o);clear ho he8 z0
       go_wp2_with (at_builtin; refine a0y rfl b2O _ _ _ rfl w.heap.size _ _ pj [(((pa, pb), (j : Int)) : Po)] rfl HOL.o rfl HL1.o (by have := HPJ.o; simp; omega) (by have := HPJ.o; unfold maxLen; simp; omega) HXB.o.size ?_; intro v9 w9 ho9 hg9 hat9)
       have HX9 := hid (HXB.o.grown hat9 fun g hg => (HOL.o.own.lt g hg).1)
       have HO9 := hid ho9;clear ho9 hg9 hat9
       go_wp2
       exact ⟨⟨j + 1, HJT.o, by go_num, by rw [HAS.o]; exact HO9.o, HX9.o⟩, by have := HJT.o; simp [intOf]; omega⟩
     rw [if_neg hq, List.append_nil] at HSJ;have hqb : (x == name) = false := by simpa using hq
     have HAS := hid (show pl ++ nmN name (pa, pb) (ins.take (j + 1)) = pl ++ nmN name (pa, pb) (ins.take j) by rw [HSJ.o])
     clear hq ho
     go_wp2_with fail
     exact ⟨⟨j + 1, HJT.o, by go_num, by rw [HAS.o]; exact HO2.o, HE2.o⟩, by have := HJT.o; simp [intOf]; omega⟩
   obtain rfl : j = ins.length := by omega
   have r1 : ¬ (ins.length : Int) < (ins.length : Int) := by omega
   rw [List.take_length] at HO2;clear ho hext hj hlt
   go_wp2
   exact ⟨⟨k + 1, HLT.o, by go_num, by rw [HS.o]; exact HO2.o, HE2.o⟩, by have := HLT.o; simp [intOf]; omega⟩
 obtain rfl : k = l.length := by omega
 have q1 : ¬ (l.length : Int) < (l.length : Int) := by omega
 rw [List.take_length] at HO;clear ho hext hk hlt hvo
 go_wp2
 go_ret
 exact ⟨_, rfl, HO.o, HE.o⟩
end Go.Proofs.YtdkejfjcchlnpaaGreat
namespace Go.Proofs.YtdkejfjcchlnpaaGreat
open Go.RowKit Go.Ox Go.Ox.Gr
attribute [local irreducible] RE OE a00
theorem a7R (d : Nat) (v : Value) (l : List Nd) (out : Int) (i : Nat) (j : Nat) (op kind fa a : Int) (ins : List Int) (body : List Nd) (w : World) (hv : a00 d w v l) (hok : gOk (l, out) = true) (hn : l[i]? = some (.mk op ins kind fa a body)) (mop mkind mfa ma : Int) (mins : List Int) (mbody : List Nd) (hm : body[j]? = some (.mk mop mins mkind mfa ma mbody)) :
 Calls Tryz.prog 68 #[gAg v out, plV ((i : Int), (j : Int))] w fun e w' => ∃ u, e = .returned (.tuple #[a1C mop mkind mfa ma u (.slice none 0 0), .bool true]) ∧ RE w' u mins ∧ Ext w w' := by
 obtain ⟨hi, hx⟩ := List.getElem?_eq_some_iff.1 hn;have hnd := a4d hok (List.getElem_mem hi);rw [hx] at hnd;have HND2 := hid (show ins.length ≤ 2 ∧ body.length ≤ 32 ∧ ∀ m ∈ body, m.body = [] ∧ m.ins.length ≤ 2 from hnd);have HXX := hid hx;clear hnd hn;obtain ⟨A, c, rfl⟩ := hv.form;have HX0 := hid ((((Ext.refl w).alloc (gCs (.slice A l.length c) out)).alloc (a3M (i : Int) (j : Int))).alloc (a0i 0 0 0 0 (.slice none 0 0) (.slice none 0 0)));have HB0 := hid (show BN3 (((w.alloc (gCs (.slice A l.length c) out)).alloc (a3M (i : Int) (j : Int))).alloc (a0i 0 0 0 0 (.slice none 0 0) (.slice none 0 0))) w.heap.size (.slice A l.length c) out (i : Int) (j : Int) from BN3.new w (.slice A l.length c) out (i : Int) (j : Int));have HCK := hid (fun w h => a0C d (.slice A l.length c) l out w h)
 rw [show gE (l, out) = 0 from if_pos hok] at HCK;have HV := hid (hv.ext HX0.o);have g0 : ¬ (i : Int) < 0 := by omega
 have g1 : ¬ (l.length : Int) ≤ (i : Int) := by omega
 have g1b : (i : Int) < (l.length : Int) := by omega
 have g1c : 0 ≤ (i : Int) := by omega
 have g1n : i < l.length := hi;have HI := hid hi;have HM := hid hm;clear hv hok hx hm
 go_enter Tryz.func68, Tryz.ntmps68
 go_upto_region 1 with fail
 obtain ⟨p, hp⟩ : ∃ p, p = w.heap.size := ⟨_, rfl⟩;rw [← hp] at HB0 ⊢;have HP := hid hp;clear hp;generalize ((w.alloc (gCs (.slice A l.length c) out)).alloc (a3M (i : Int) (j : Int))).alloc (a0i 0 0 0 0 (.slice none 0 0) (.slice none 0 0)) = w0 at *;obtain ⟨a0, a1, a2, a3⟩ := HB0.o.cells
 go_wp2_with fail
 refine (HCK.o _ HV.o).mono ?_;rintro e w1 ⟨rfl, he1⟩;have HX1 := hid (HX0.o.trans he1);have HB1 := hid (HB0.o.ext he1);have HV1 := hid (HV.o.ext he1);clear he1 a0 a1 a2 a3;obtain ⟨a0, a1, a2, a3⟩ := HB1.o.cells;obtain ⟨bA, oA, u, bv, rfl, e0, e1, e2, e3, e4, e5, hu, hbv⟩ := HV1.o.at_ HI.o;have hj1 : ¬ (j : Int) < -1 := by omega
 have hjm : ((j : Int) == -1) = false := by simp <;> omega
 rw [HXX.o] at e0 e2 e3 e4 hu hbv;simp only [Nd.op, Nd.kind, Nd.fa, Nd.a, Nd.ins, Nd.body] at e0 e2 e3 e4 hu hbv;obtain ⟨Au, cu, rfl⟩ := hu.form;obtain ⟨Ab, cb, rfl⟩ := hbv.form;have hxn := (Ext.refl w1).alloc (a0i op kind fa a (.slice Au ins.length cu) (.slice Ab body.length cb));have HX2 := hid (HX1.o.trans hxn);have HB2 := hid (HB1.o.ext hxn);have HN2 := hid (Bx6.new w1 101 (.int .i64 op) (.slice Au ins.length cu) (.int .i64 kind) (.int .i64 fa) (.int .i64 a) (.slice Ab body.length cb));have HU2 := hid (hu.ext hxn);have HW2 := hid (hbv.ext hxn);have HQ := hid (show p + 1 + 1 < w1.heap.size from HB1.o.r.b.lt);clear hxn hu hbv HV HV1
 go_upto_region 4 with fail
 clear e0 e1 e2 e3 e4 e5 a0 a1 a2 a3;generalize w1.heap.size = q at *;generalize w1.alloc (a0i op kind fa a (.slice Au ins.length cu) (.slice Ab body.length cb)) = w2 at *;obtain ⟨a0, a1, a2, a3⟩ := HB2.o.cells;obtain ⟨n0, n1, n2, n3, n4, n5⟩ := HN2.o.at_;obtain ⟨hjl, hmx⟩ := List.getElem?_eq_some_iff.1 HM.o;have hjn : j < body.length := hjl;have hjb : (j : Int) < (body.length : Int) := by omega
 have hjb2 : ¬ (body.length : Int) ≤ (j : Int) := by omega
 have hj0 : 0 ≤ (j : Int) := by omega
 obtain ⟨bB, oB, mu, mb, rfl, m0, m1, m2, m3, m4, m5, hmu, hmb⟩ := HW2.o.at_ hjl;obtain ⟨hz, hmi⟩ := HND2.o.2.2 body[j] (List.getElem_mem hjl);rw [hmx] at m0 m2 m3 m4 hmu hmb hz hmi;simp only [Nd.op, Nd.kind, Nd.fa, Nd.a, Nd.ins, Nd.body] at m0 m2 m3 m4 hmu hmb hz hmi;subst hz;have HC := hid (a56 mop mkind mfa ma mu mb mins _ w2 hmu hmb (by omega))
 obtain ⟨Am, cm, rfl⟩ := hmu.form;obtain ⟨Ax, cx, rfl⟩ : ∃ A c, mb = .slice A 0 c := hmb.form;clear hmu hmb hmx hjl
 go_wp2_with fail
 refine HC.o.mono ?_;rintro e w3 ⟨u', rfl, ho3, he3⟩;have HE3 := hid he3;have HO3 := hid ho3;have HQ2 := hid HB2.o.r.b.lt;obtain ⟨A3, c3, rfl⟩ := ho3.re.form;clear he3 ho3 m0 m1 m2 m3 m4 m5;have HB3 := hid (HB2.o.ext HE3.o);clear a0 a1 a2 a3 n0 n1 n2 n3 n4 n5;obtain ⟨⟨r0, r1, r2, r3, r4, r5⟩, f0, f1, f2, f3, f4, f5⟩ := HB3.o.a7N;have HF := hid (HB3.o.r.fill (.int .i64 mop) (.slice A3 mins.length c3) (.int .i64 mkind) (.int .i64 mfa) (.int .i64 ma) (.slice none 0 0));have HXQ := hid (a6Y (ExtQ.refl (fun k => k = p + 1 + 1) w3) (q := p + 1 + 1) rfl (.int .i64 mop) (.slice A3 mins.length c3) (.int .i64 mkind) (.int .i64 mfa) (.int .i64 ma) (.slice none 0 0))
 have HX4 := hid ((HX2.o.trans HE3.o).a4N HXQ.o (fun g hg => by have h1 := HP.o; omega))
 go_wp2
 generalize (((((w3.setCell ⟨p + 1 + 1, 0, none⟩ (.int .i64 mop)).setCell ⟨p + 1 + 1, 1, none⟩ (.slice A3 mins.length c3)).setCell ⟨p + 1 + 1, 2, none⟩ (.int .i64 mkind)).setCell ⟨p + 1 + 1, 3, none⟩ (.int .i64 mfa)).setCell ⟨p + 1 + 1, 4, none⟩ (.int .i64 ma)).setCell ⟨p + 1 + 1, 5, none⟩ (.slice none 0 0) = wz at *;obtain ⟨y0, y1, y2, y3, y4, y5⟩ := HF.o.at_;exact bodyPost_ret (v := .tuple #[a1C mop mkind mfa ma (.slice A3 mins.length c3) (.slice none 0 0), .bool true]) (by simp [results, Tryz.results68, go_sem, y0, y1, y2, y3, y4, y5]) rfl ⟨_, rfl, (OE.mk (a0a HO3.o.own HXQ.o fun g hg q => by have h1 := HO3.o.lt hg; have h2 := HQ2.o; omega)).re, HX4.o⟩
theorem a6s (d : Nat) (v : Value) (l : List Nd) (out : Int) (i : Nat) (op kind fa a : Int) (ins : List Int) (body : List Nd) (w : World) (hv : a00 d w v l) (hok : gOk (l, out) = true) (hn : l[i]? = some (.mk op ins kind fa a body)) :
 Calls Tryz.prog 68 #[gAg v out, plV ((i : Int), (-1))] w fun e w' => ∃ u b, e = .returned (.tuple #[a1C op kind fa a u b, .bool true]) ∧ RE w' u ins ∧ a00 1 w' b body ∧ Ext w w' := by
 obtain ⟨hi, hx⟩ := List.getElem?_eq_some_iff.1 hn;have hnd := a4d hok (List.getElem_mem hi);rw [hx] at hnd;have HND2 := hid (show ins.length ≤ 2 ∧ body.length ≤ 32 ∧ ∀ m ∈ body, m.body = [] ∧ m.ins.length ≤ 2 from hnd);have HXX := hid hx;clear hnd hn;obtain ⟨A, c, rfl⟩ := hv.form;have HX0 := hid ((((Ext.refl w).alloc (gCs (.slice A l.length c) out)).alloc (a3M (i : Int) (-1))).alloc (a0i 0 0 0 0 (.slice none 0 0) (.slice none 0 0)));have HB0 := hid (show BN3 (((w.alloc (gCs (.slice A l.length c) out)).alloc (a3M (i : Int) (-1))).alloc (a0i 0 0 0 0 (.slice none 0 0) (.slice none 0 0))) w.heap.size (.slice A l.length c) out (i : Int) (-1) from BN3.new w (.slice A l.length c) out (i : Int) (-1));have HCK := hid (fun w h => a0C d (.slice A l.length c) l out w h)
 rw [show gE (l, out) = 0 from if_pos hok] at HCK;have HV := hid (hv.ext HX0.o);have g0 : ¬ (i : Int) < 0 := by omega
 have g1 : ¬ (l.length : Int) ≤ (i : Int) := by omega
 have g1b : (i : Int) < (l.length : Int) := by omega
 have g1c : 0 ≤ (i : Int) := by omega
 have g1n : i < l.length := hi;have HI := hid hi;clear hv hok hx
 go_enter Tryz.func68, Tryz.ntmps68
 go_upto_region 1 with fail
 obtain ⟨p, hp⟩ : ∃ p, p = w.heap.size := ⟨_, rfl⟩;rw [← hp] at HB0 ⊢;have HP := hid hp;clear hp;generalize ((w.alloc (gCs (.slice A l.length c) out)).alloc (a3M (i : Int) (-1))).alloc (a0i 0 0 0 0 (.slice none 0 0) (.slice none 0 0)) = w0 at *;obtain ⟨a0, a1, a2, a3⟩ := HB0.o.cells
 go_wp2_with fail
 refine (HCK.o _ HV.o).mono ?_;rintro e w1 ⟨rfl, he1⟩;have HX1 := hid (HX0.o.trans he1);have HB1 := hid (HB0.o.ext he1);have HV1 := hid (HV.o.ext he1);clear he1 a0 a1 a2 a3;obtain ⟨a0, a1, a2, a3⟩ := HB1.o.cells;obtain ⟨bA, oA, u, bv, rfl, e0, e1, e2, e3, e4, e5, hu, hbv⟩ := HV1.o.at_ HI.o;rw [HXX.o] at e0 e2 e3 e4 hu hbv;simp only [Nd.op, Nd.kind, Nd.fa, Nd.a, Nd.ins, Nd.body] at e0 e2 e3 e4 hu hbv;obtain ⟨Au, cu, rfl⟩ := hu.form;obtain ⟨Ab, cb, rfl⟩ := hbv.form;have hxn := (Ext.refl w1).alloc (a0i op kind fa a (.slice Au ins.length cu) (.slice Ab body.length cb));have HX2 := hid (HX1.o.trans hxn);have HB2 := hid (HB1.o.ext hxn);have HN2 := hid (Bx6.new w1 101 (.int .i64 op) (.slice Au ins.length cu) (.int .i64 kind) (.int .i64 fa) (.int .i64 a) (.slice Ab body.length cb));have HU2 := hid (hu.ext hxn);have HW2 := hid (hbv.ext hxn);have HQ := hid (show p + 1 + 1 < w1.heap.size from HB1.o.r.b.lt);clear hxn hu hbv HV HV1
 go_upto_region 4 with fail
 clear e0 e1 e2 e3 e4 e5 a0 a1 a2 a3;generalize w1.heap.size = q at *;generalize w1.alloc (a0i op kind fa a (.slice Au ins.length cu) (.slice Ab body.length cb)) = w2 at *;obtain ⟨a0, a1, a2, a3⟩ := HB2.o.cells;obtain ⟨n0, n1, n2, n3, n4, n5⟩ := HN2.o.at_
 go_wp2_with fail
 refine (a8E op kind fa a (.slice Au ins.length cu) (.slice Ab body.length cb) ins body _ w2 HU2.o HW2.o (by have := HND2.o.1; omega) (by have := HND2.o.2.1; omega) (fun m hm => ⟨(HND2.o.2.2 m hm).1, by have := (HND2.o.2.2 m hm).2; omega⟩)).mono ?_
 rintro e w3 ⟨u', b', rfl, hst, he3⟩;have HE3 := hid he3;have HST := hid hst;have HQ2 := hid HB2.o.r.b.lt;obtain ⟨A3, c3, rfl⟩ := (hst w3 (ExtQ.refl _ _)).1.form;obtain ⟨A4, c4, rfl⟩ := (hst w3 (ExtQ.refl _ _)).2.form;clear he3 hst;have HB3 := hid (HB2.o.ext HE3.o);clear a0 a1 a2 a3 n0 n1 n2 n3 n4 n5;obtain ⟨⟨r0, r1, r2, r3, r4, r5⟩, f0, f1, f2, f3, f4, f5⟩ := HB3.o.a7N;have HF := hid (HB3.o.r.fill (.int .i64 op) (.slice A3 ins.length c3) (.int .i64 kind) (.int .i64 fa) (.int .i64 a) (.slice A4 body.length c4));have HXQ := hid (a6Y (ExtQ.refl (fun k => k = p + 1 + 1) w3) (q := p + 1 + 1) rfl (.int .i64 op) (.slice A3 ins.length c3) (.int .i64 kind) (.int .i64 fa) (.int .i64 a) (.slice A4 body.length c4))
 have HX4 := hid ((HX2.o.trans HE3.o).a4N HXQ.o (fun g hg => by have h1 := HP.o; omega))
 go_wp2
 generalize (((((w3.setCell ⟨p + 1 + 1, 0, none⟩ (.int .i64 op)).setCell ⟨p + 1 + 1, 1, none⟩ (.slice A3 ins.length c3)).setCell ⟨p + 1 + 1, 2, none⟩ (.int .i64 kind)).setCell ⟨p + 1 + 1, 3, none⟩ (.int .i64 fa)).setCell ⟨p + 1 + 1, 4, none⟩ (.int .i64 a)).setCell ⟨p + 1 + 1, 5, none⟩ (.slice A4 body.length c4) = wz at *;obtain ⟨y0, y1, y2, y3, y4, y5⟩ := HF.o.at_;exact bodyPost_ret (v := .tuple #[a1C op kind fa a (.slice A3 ins.length c3) (.slice A4 body.length c4), .bool true]) (by simp [results, Tryz.results68, go_sem, y0, y1, y2, y3, y4, y5]) rfl ⟨_, _, rfl, (HST.o _ (HXQ.o.mono fun g hg => by have h1 := HQ2.o; omega)).1, (HST.o _ (HXQ.o.mono fun g hg => by have h1 := HQ2.o; omega)).2, HX4.o⟩
theorem b00 (d : Nat) (v : Value) (l : List Nd) (out : Int) (i : Nat) (j : Int) (op kind fa a : Int) (ins : List Int) (body : List Nd) (w : World) (hv : a00 d w v l) (hok : gOk (l, out) = true) (hn : l[i]? = some (.mk op ins kind fa a body)) (hj : 0 ≤ j ∧ (body.length : Int) ≤ j) :
 Calls Tryz.prog 68 #[gAg v out, plV ((i : Int), j)] w fun e w' => e = .returned (.tuple #[nd0V, .bool false]) ∧ Ext w w' := by
 obtain ⟨hi, hx⟩ := List.getElem?_eq_some_iff.1 hn;have hnd := a4d hok (List.getElem_mem hi);rw [hx] at hnd;have HND2 := hid (show ins.length ≤ 2 ∧ body.length ≤ 32 ∧ ∀ m ∈ body, m.body = [] ∧ m.ins.length ≤ 2 from hnd);have HXX := hid hx;clear hnd hn;obtain ⟨A, c, rfl⟩ := hv.form;have HX0 := hid ((((Ext.refl w).alloc (gCs (.slice A l.length c) out)).alloc (a3M (i : Int) j)).alloc (a0i 0 0 0 0 (.slice none 0 0) (.slice none 0 0)));have HB0 := hid (show BN3 (((w.alloc (gCs (.slice A l.length c) out)).alloc (a3M (i : Int) j)).alloc (a0i 0 0 0 0 (.slice none 0 0) (.slice none 0 0))) w.heap.size (.slice A l.length c) out (i : Int) j from BN3.new w (.slice A l.length c) out (i : Int) j);have HCK := hid (fun w h => a0C d (.slice A l.length c) l out w h)
 rw [show gE (l, out) = 0 from if_pos hok] at HCK;have HV := hid (hv.ext HX0.o);have g0 : ¬ (i : Int) < 0 := by omega
 have g1 : ¬ (l.length : Int) ≤ (i : Int) := by omega
 have g1b : (i : Int) < (l.length : Int) := by omega
 have g1c : 0 ≤ (i : Int) := by omega
 have g1n : i < l.length := hi;have HI := hid hi;have HJ := hid hj;clear hv hok hx hj
 go_enter Tryz.func68, Tryz.ntmps68
 go_upto_region 1 with fail
 obtain ⟨p, hp⟩ : ∃ p, p = w.heap.size := ⟨_, rfl⟩;rw [← hp] at HB0 ⊢;have HP := hid hp;clear hp;generalize ((w.alloc (gCs (.slice A l.length c) out)).alloc (a3M (i : Int) j)).alloc (a0i 0 0 0 0 (.slice none 0 0) (.slice none 0 0)) = w0 at *;obtain ⟨a0, a1, a2, a3⟩ := HB0.o.cells
 go_wp2_with fail
 refine (HCK.o _ HV.o).mono ?_;rintro e w1 ⟨rfl, he1⟩;have HX1 := hid (HX0.o.trans he1);have HB1 := hid (HB0.o.ext he1);have HV1 := hid (HV.o.ext he1);clear he1 a0 a1 a2 a3;obtain ⟨a0, a1, a2, a3⟩ := HB1.o.cells;obtain ⟨bA, oA, u, bv, rfl, e0, e1, e2, e3, e4, e5, hu, hbv⟩ := HV1.o.at_ HI.o;have hj0 : 0 ≤ j := HJ.o.1;have hj1 : ¬ j < -1 := by omega
 have hjm : (j == -1) = false := by simp; omega
 have HJ1 := hid (show (body.length : Int) ≤ j from HJ.o.2);rw [HXX.o] at e0 e2 e3 e4 hu hbv;simp only [Nd.op, Nd.kind, Nd.fa, Nd.a, Nd.ins, Nd.body] at e0 e2 e3 e4 hu hbv;obtain ⟨Au, cu, rfl⟩ := hu.form;obtain ⟨Ab, cb, rfl⟩ := hbv.form;have hxn := (Ext.refl w1).alloc (a0i op kind fa a (.slice Au ins.length cu) (.slice Ab body.length cb));have HX2 := hid (HX1.o.trans hxn);have HB2 := hid (HB1.o.ext hxn);have HN2 := hid (Bx6.new w1 101 (.int .i64 op) (.slice Au ins.length cu) (.int .i64 kind) (.int .i64 fa) (.int .i64 a) (.slice Ab body.length cb));have HU2 := hid (hu.ext hxn);have HW2 := hid (hbv.ext hxn);have HQ := hid (show p + 1 + 1 < w1.heap.size from HB1.o.r.b.lt);clear hxn hu hbv HV HV1
 go_upto_region 4 with fail
 clear e0 e1 e2 e3 e4 e5 a0 a1 a2 a3;generalize w1.heap.size = q at *;generalize w1.alloc (a0i op kind fa a (.slice Au ins.length cu) (.slice Ab body.length cb)) = w2 at *;obtain ⟨a0, a1, a2, a3⟩ := HB2.o.cells;obtain ⟨n0, n1, n2, n3, n4, n5⟩ := HN2.o.at_;have hjb := HJ1.o;obtain ⟨w3, hw3⟩ : ∃ w3, w3 = w2 := ⟨_, rfl⟩;have HE3 := hid (show Ext w2 w3 by rw [hw3]; exact Ext.refl _)
 subst hw3;have HB3 := hid (HB2.o.ext HE3.o);obtain ⟨⟨r0, r1, r2, r3, r4, r5⟩, f0, f1, f2, f3, f4, f5⟩ := HB3.o.a7N;have HF := hid (HB3.o.r.fill (.int .i64 0) (.slice none 0 0) (.int .i64 0) (.int .i64 0) (.int .i64 0) (.slice none 0 0));have HXQ := hid (a6Y (ExtQ.refl (fun k => k = p + 1 + 1) w3) (q := p + 1 + 1) rfl (.int .i64 0) (.slice none 0 0) (.int .i64 0) (.int .i64 0) (.int .i64 0) (.slice none 0 0))
 have HX4 := hid ((HX2.o.trans HE3.o).a4N HXQ.o (fun g hg => by have h1 := HP.o; omega))
 go_wp2
 generalize (((((w3.setCell ⟨p + 1 + 1, 0, none⟩ (.int .i64 0)).setCell ⟨p + 1 + 1, 1, none⟩ (.slice none 0 0)).setCell ⟨p + 1 + 1, 2, none⟩ (.int .i64 0)).setCell ⟨p + 1 + 1, 3, none⟩ (.int .i64 0)).setCell ⟨p + 1 + 1, 4, none⟩ (.int .i64 0)).setCell ⟨p + 1 + 1, 5, none⟩ (.slice none 0 0) = wz at *;obtain ⟨y0, y1, y2, y3, y4, y5⟩ := HF.o.at_;exact bodyPost_ret (v := .tuple #[a1C 0 0 0 0 (.slice none 0 0) (.slice none 0 0), .bool false]) (by simp [results, Tryz.results68, go_sem, y0, y1, y2, y3, y4, y5]) rfl ⟨rfl, HX4.o⟩
end Go.Proofs.YtdkejfjcchlnpaaGreat
