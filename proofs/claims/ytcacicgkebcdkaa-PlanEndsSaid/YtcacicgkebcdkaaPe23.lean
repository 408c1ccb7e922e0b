/-
  PlMath, GrNamed, packed: what the claim needs of them.
-/
import Derived.Test.YtcacicgkebcdkaaPe19
import Derived.Test.YtcacicgkebcdkaaPe17
set_option linter.unusedSimpArgs false
set_option linter.unusedVariables false
set_option maxRecDepth 100000
namespace Go.Ox.Pl
open Go.Sort
def ltK (a b : Mom.M × Mom.M) : Prop := Mom.lt a.1 b.1 ∨ (a.1 = b.1 ∧ Mom.lt a.2 b.2)
theorem ltK_irrefl (a : Mom.M × Mom.M) : ¬ ltK a a := by
  unfold ltK Mom.lt; omega
theorem ltK_trans {a b c : Mom.M × Mom.M} (h1 : ltK a b) (h2 : ltK b c) : ltK a c := by
  obtain ⟨⟨a1, a2⟩, a3, a4⟩ := a
  obtain ⟨⟨b1, b2⟩, b3, b4⟩ := b
  obtain ⟨⟨c1, c2⟩, c3, c4⟩ := c
  unfold ltK Mom.lt at *
  simp only [Prod.mk.injEq] at *
  omega
theorem ltK_conn (a b : Mom.M × Mom.M) : ltK a b ∨ a = b ∨ ltK b a := by
  obtain ⟨⟨a1, a2⟩, a3, a4⟩ := a
  obtain ⟨⟨b1, b2⟩, b3, b4⟩ := b
  unfold ltK Mom.lt
  simp only [Prod.mk.injEq]
  omega
theorem asc_ext : ∀ (l r : List Ar), l.Pairwise (fun a b => ltK a.1 b.1) → r.Pairwise (fun a b => ltK a.1 b.1) → (∀ x, x ∈ l ↔ x ∈ r) → l = r
  | [], [], _, _, _ => rfl
  | [], y :: r, _, _, h => by have := (h y).2 (by simp); simp at this
  | x :: l, [], _, _, h => by have := (h x).1 (by simp); simp at this
  | x :: l, y :: r, hl, hr, h => by
    rw [List.pairwise_cons] at hl hr
    have hxy : x = y := by
      have h1 := (h x).1 (by simp)
      have h2 := (h y).2 (by simp)
      rcases List.mem_cons.1 h1 with e | e
      · exact e
      · rcases List.mem_cons.1 h2 with e2 | e2
        · exact e2.symm
        · exact absurd (ltK_trans (hr.1 x e) (hl.1 y e2)) (ltK_irrefl _)
    subst hxy
    rw [asc_ext l r hl.2 hr.2 (fun z => ?_)]
    have hz := h z
    constructor
    · intro q
      rcases List.mem_cons.1 (hz.1 (List.mem_cons_of_mem _ q)) with e | e
      · subst e; exact absurd (hl.1 _ q) (ltK_irrefl _)
      · exact e
    · intro q
      rcases List.mem_cons.1 (hz.2 (List.mem_cons_of_mem _ q)) with e | e
      · subst e; exact absurd (hr.1 _ q) (ltK_irrefl _)
      · exact e
abbrev Srtd (l : List Ar) : Prop := l.Pairwise fun a b => ¬ ltK b.1 a.1
theorem ddF_sub : ∀ (r : List Ar) (x y : Ar), y ∈ ddF x r → y ∈ r
  | [], x, y, h => by simp [ddF] at h
  | z :: r, x, y, h => by
    unfold ddF at h
    split at h
    · exact List.mem_cons_of_mem _ (ddF_sub r z y h)
    · rcases List.mem_cons.1 h with e | e
      · subst e; simp
      · exact List.mem_cons_of_mem _ (ddF_sub r z y e)
theorem ddF_asc : ∀ (r : List Ar) (x : Ar), Srtd (x :: r) → (∀ y ∈ ddF x r, ltK x.1 y.1) ∧ (ddF x r).Pairwise (fun a b => ltK a.1 b.1)
  | [], x, h => by simp [ddF]
  | z :: r, x, h => by
    unfold Srtd at h
    rw [List.pairwise_cons, List.pairwise_cons] at h
    obtain ⟨h1, h2, h3⟩ := h
    obtain ⟨k1, k2⟩ := ddF_asc r z (List.pairwise_cons.2 ⟨h2, h3⟩)
    unfold ddF
    by_cases q : z.1 = x.1
    · rw [if_pos q, ← q]; exact ⟨k1, k2⟩
    · rw [if_neg q]
      have hxz : ltK x.1 z.1 := by
        rcases ltK_conn x.1 z.1 with e | e | e
        · exact e
        · exact absurd e.symm q
        · exact absurd e (h1 z (by simp))
      refine ⟨fun y hy => ?_, List.pairwise_cons.2 ⟨k1, k2⟩⟩
      rcases List.mem_cons.1 hy with e | e
      · subst e; exact hxz
      · exact ltK_trans hxz (k1 y e)
theorem ddF_has : ∀ (r : List Ar) (x y : Ar), y ∈ r → y.1 = x.1 ∨ ∃ z ∈ ddF x r, z.1 = y.1
  | [], x, y, h => by simp at h
  | z :: r, x, y, h => by
    unfold ddF
    by_cases q : z.1 = x.1
    · rw [if_pos q]
      rcases List.mem_cons.1 h with e | e
      · subst e; exact .inl q
      · rcases ddF_has r z y e with k | k
        · exact .inl (k.trans q)
        · exact .inr k
    · rw [if_neg q]
      rcases List.mem_cons.1 h with e | e
      · subst e; exact .inr ⟨y, by simp, rfl⟩
      · rcases ddF_has r z y e with k | ⟨t, k1, k2⟩
        · exact .inr ⟨z, by simp, k.symm⟩
        · exact .inr ⟨t, List.mem_cons_of_mem _ k1, k2⟩
theorem dd_asc {l : List Ar} (h : Srtd l) : (dd l).Pairwise (fun a b => ltK a.1 b.1) := by
  cases l with
  | nil => exact List.Pairwise.nil
  | cons x r => exact List.pairwise_cons.2 (ddF_asc r x h)
theorem dd_mem {l : List Ar} (hu : ∀ a ∈ l, ∀ b ∈ l, a.1 = b.1 → a = b) (y : Ar) : y ∈ dd l ↔ y ∈ l := by
  cases l with
  | nil => rfl
  | cons x r =>
    unfold dd
    constructor
    · intro h
      rcases List.mem_cons.1 h with e | e
      · subst e; simp
      · exact List.mem_cons_of_mem _ (ddF_sub r x y e)
    · intro h
      rcases List.mem_cons.1 h with e | e
      · subst e; simp
      · rcases ddF_has r x y e with k | ⟨z, k1, k2⟩
        · have := hu y (List.mem_cons_of_mem _ e) x (by simp) k
          subst this; simp
        · have := hu z (List.mem_cons_of_mem _ (ddF_sub r x z k1)) y (List.mem_cons_of_mem _ e) k2
          subst this; exact List.mem_cons_of_mem _ k1
theorem dd_is {a0 s c : List Ar} (hp : s.Perm a0) (hs : Srtd s) (hu : ∀ a ∈ a0, ∀ b ∈ a0, a.1 = b.1 → a = b) (hc : c.Pairwise (fun a b => ltK a.1 b.1)) (hm : ∀ x, x ∈ a0 ↔ x ∈ c) : dd s = c :=
  asc_ext _ _ (dd_asc hs) hc fun x => by
    rw [dd_mem (fun a ha b hb => hu a (hp.mem_iff.1 ha) b (hp.mem_iff.1 hb)), hp.mem_iff, hm]
end Go.Ox.Pl
namespace Go.Proofs.Ytcacicgkebcdkaa
open Go.RowKit Go.Ox Go.Ox.Gr
attribute [local irreducible] RE OE NodesR
end Go.Proofs.Ytcacicgkebcdkaa
namespace Go.Proofs.Ytcacicgkebcdkaa
open Go.RowKit Go.Ox Go.Ox.Gr
abbrev Po := Pl × Int
instance encPo : Enc Po where
  k := 3
  enc x := [.int .i64 x.1.1, .int .i64 x.1.2, .int .i64 x.2]
  len _ := rfl
  pos := by omega
  one x u hu := by simp at hu; rcases hu with rfl | rfl | rfl <;> rfl
attribute [local irreducible] RE OE NodesR
end Go.Proofs.Ytcacicgkebcdkaa
namespace Go.Ox.Gr
def nmN (name : Int) (p : Int × Int) (ins : List Int) : List ((Int × Int) × Int) := ins.zipIdx.filterMap fun x => if x.1 = name then some (p, (x.2 : Int)) else none
theorem nmN_s (name : Int) (p : Int × Int) (ins : List Int) {k : Nat} (h : k < ins.length) : nmN name p (ins.take (k + 1)) = nmN name p (ins.take k) ++ (if ins[k] = name then [(p, (k : Int))] else []) := by
  unfold nmN
  rw [List.take_succ_eq_append_getElem h, List.zipIdx_append, List.filterMap_append]
  congr 1
  have : (ins.take k).length = k := by rw [List.length_take]; omega
  rw [this]
  by_cases q : ins[k] = name <;> simp [q]
theorem nmN_len (name : Int) (p : Int × Int) (ins : List Int) : (nmN name p ins).length ≤ ins.length := by
  unfold nmN
  refine Nat.le_trans (List.length_filterMap_le _ _) (by simp)
def nmFrom (name : Int) (f : Nat → Int × Int) : List Nd → Nat → List ((Int × Int) × Int)
  | [], _ => []
  | n :: l, i => nmN name (f i) n.ins ++ nmFrom name f l (i + 1)
def namedL (name : Int) (f : Nat → Int × Int) (l : List Nd) : List ((Int × Int) × Int) := nmFrom name f l 0
theorem nmFrom_app (name : Int) (f : Nat → Int × Int) : ∀ (l r : List Nd) (i : Nat), nmFrom name f (l ++ r) i = nmFrom name f l i ++ nmFrom name f r (i + l.length)
  | [], r, i => by simp [nmFrom]
  | n :: l, r, i => by
    simp only [List.cons_append, nmFrom, List.length_cons, nmFrom_app name f l r (i + 1), List.append_assoc]
    rw [show i + 1 + l.length = i + (l.length + 1) by omega]
theorem namedL_s (name : Int) (f : Nat → Int × Int) (l : List Nd) {k : Nat} (h : k < l.length) : namedL name f (l.take (k + 1)) = namedL name f (l.take k) ++ nmN name (f k) l[k].ins := by
  unfold namedL
  rw [List.take_succ_eq_append_getElem h, nmFrom_app, List.length_take, Nat.min_eq_left (by omega), Nat.zero_add]
  simp [nmFrom]
theorem nmFrom_len (name : Int) (f : Nat → Int × Int) : ∀ (l : List Nd) (i : Nat), (∀ n ∈ l, n.ins.length ≤ 100) → (nmFrom name f l i).length ≤ l.length * 100
  | [], _, _ => by simp [nmFrom]
  | n :: l, i, h => by
    have h1 := nmFrom_len name f l (i + 1) fun m hm => h m (List.mem_cons_of_mem _ hm)
    have h2 := h n List.mem_cons_self
    have h3 := nmN_len name (f i) n.ins
    unfold nmFrom
    rw [List.length_append, List.length_cons]
    omega
theorem namedL_len (name : Int) (f : Nat → Int × Int) (l : List Nd) (k : Nat) (h : ∀ n ∈ l, n.ins.length ≤ 100) (hl : l.length ≤ 100) : (namedL name f (l.take k)).length ≤ 10000 := by
  have := nmFrom_len name f (l.take k) 0 fun n hn => h n (List.mem_of_mem_take hn)
  rw [List.length_take] at this
  unfold namedL
  omega
end Go.Ox.Gr
namespace Go.Proofs.Ytcacicgkebcdkaa
open Go.RowKit Go.Ox Go.Ox.Gr
attribute [local irreducible] RE OE NodesR
theorem elemPo : Elem Try.prog 58 61 (.agg #[.int .i64 0, .int .i64 0, .int .i64 0]) 3 24 := Elem.mk' Try.underlying58 (by kernel_rfl) rfl (by omega)
set_option maxHeartbeats 8000000 in
theorem named_any (name : Int) (f : Nat → Pl) (g : Nat) (lb : Array Value) (eg : ∀ args w, (callFunc g args).run Try.prog w = .ok (.enter g args) w) (d : Nat) (v : Value) (l : List Nd) (w : World) (hv : NodesR d w v l) (hl : l.length ≤ 100) (hil : ∀ n ∈ l, n.ins.length ≤ 100)
    (hcl : ∀ (i : Nat) W, Ext w W → Calls Try.prog g (#[.int .i64 (i : Int)] ++ lb) W fun e W' => e = .returned (plV (f i)) ∧ Ext W W') :
    Calls Try.prog 54 #[v, .int .i64 name, .func (.func g) #[] lb] w fun e w' => ∃ u, e = .returned u ∧ OE 61 w.heap.size w' u (namedL name f l) ∧ Ext w w' := by
  obtain ⟨A, c, rfl⟩ := hv.form
  have HV := Lib.hid hv
  have HL := Lib.hid hl
  have HIL := Lib.hid (fun (k : Nat) (h : k < l.length) => hil l[k] (List.getElem_mem h))
  have HPL := Lib.hid (fun k => namedL_len name f l k hil hl)
  have HCL := Lib.hid hcl
  clear hv hl hil hcl
  go_enter Try.func54, Try.ntmps54
  go_wp2
  go_loopw [7, 14] (fun o iv wr => ∃ k : Nat, k ≤ l.length ∧ iv = .int .i64 (k : Int) ∧ OE 61 w.heap.size wr o (namedL name f (l.take k)) ∧ Ext w wr) (fun _ iv _ => l.length - (intOf iv).toNat)
  case atStart => exact ⟨0, Nat.zero_le _, rfl, OE.nilS _ _ _, Ext.refl _⟩
  case round =>
    obtain ⟨k, hk, rfl, ho, hext⟩ := hrel
    have HE := Lib.hid hext
    have HO := Lib.hid ho
    obtain ⟨AO, cO, hvo⟩ := ho.re.form
    have hk100 : k ≤ 100 := by have := HL.out; omega
    by_cases hlt : k < l.length
    · have q1 : (k : Int) < (l.length : Int) := by omega
      have q0 : 0 ≤ (k : Int) := by omega
      have q1n : k < l.length := hlt
      have HLT := Lib.hid hlt
      obtain ⟨bA, oA, u, bv, rfl, e0, e1, e2, e3, e4, e5, hu, hbv⟩ := HV.out.at_ hlt
      have HS := Lib.hid (namedL_s name f l hlt)
      have HIK := Lib.hid (HIL.out k hlt)
      have HPK1 := Lib.hid (HPL.out (k + 1))
      rw [HS.out] at HPK1
      generalize l[k] = x at *
      obtain ⟨op, ins, kind, fa, a, body⟩ := x
      simp only [Nd.op, Nd.kind, Nd.fa, Nd.a, Nd.ins, Nd.body] at e0 e2 e3 e4 hu hbv
      have e0 := hext.cell e0
      have e1 := hext.cell e1
      have e2 := hext.cell e2
      have e3 := hext.cell e3
      have e4 := hext.cell e4
      have e5 := hext.cell e5
      replace HS := Lib.hid (show namedL name f (l.take (k + 1)) = namedL name f (l.take k) ++ nmN name (f k) ins from HS.out)
      replace HIK := Lib.hid (show ins.length ≤ 100 from HIK.out)
      replace HPK1 := Lib.hid (show (namedL name f (l.take k) ++ nmN name (f k) ins).length ≤ 10000 from HPK1.out)
      generalize namedL name f (l.take k) = pl at *
      subst hvo
      have HU := Lib.hid hu
      obtain ⟨Au, cu, rfl⟩ := hu.form
      obtain ⟨Ab, cb, rfl⟩ := hbv.form
      have hxn := (Ext.refl wr).alloc (ndCs op kind fa a (.slice Au ins.length cu) (.slice Ab body.length cb))
      have HXN := Lib.hid (HE.out.trans hxn)
      have HON := Lib.hid (ho.ext hxn)
      obtain ⟨y0, y1, y2, y3, y4, y5⟩ := (Bx6.new wr 45 (.int .i64 op) (.slice Au ins.length cu) (.int .i64 kind) (.int .i64 fa) (.int .i64 a) (.slice Ab body.length cb)).at_
      clear ho hext hlt hk hu hbv hxn
      go_upto_region 5 with fail
      clear e0 e1 e2 e3 e4 e5
      generalize wr.heap.size = q at *
      generalize wr.alloc (ndCs op kind fa a (.slice Au ins.length cu) (.slice Ab body.length cb)) = wn at *
      go_wp2
      clear y0 y1 y2 y3 y4 y5
      go_loopw [7, 22] (fun o iv wx => ∃ j : Nat, j ≤ ins.length ∧ iv = .int .i64 (j : Int) ∧ OE 61 w.heap.size wx o (pl ++ nmN name (f k) (ins.take j)) ∧ Ext w wx) (fun _ iv _ => ins.length - (intOf iv).toNat)
      case atStart => exact ⟨0, Nat.zero_le _, rfl, by rw [show nmN name (f k) (ins.take 0) = [] from rfl, List.append_nil]; exact HON.out, HXN.out⟩
      case round =>
        obtain ⟨j, hj, rfl, ho, hext⟩ := hrel
        rename World => wx
        have HE2 := Lib.hid hext
        have HO2 := Lib.hid ho
        obtain ⟨AP, cP, hvo⟩ := ho.re.form
        have hj100 : j ≤ 100 := by have := HIK.out; omega
        by_cases hlt : j < ins.length
        · have r1 : (j : Int) < (ins.length : Int) := by omega
          have r0 : 0 ≤ (j : Int) := by omega
          have r1n : j < ins.length := hlt
          have HJT := Lib.hid hlt
          obtain ⟨bI, oI, rfl, z0⟩ := ri1 (RE.ext HU.out hext) hlt
          have HSJ := Lib.hid (nmN_s name (f k) ins hlt)
          have HPJ := Lib.hid (show (pl ++ nmN name (f k) (ins.take j)).length ≤ 20100 by have h1 := HPK1.out; have h2 := nmN_len name (f k) (ins.take j); rw [List.length_append] at h1 ⊢; rw [List.length_take] at h2; omega)
          have HFK := Lib.hid (HCL.out k wx hext)
          generalize ins[j] = x at *
          generalize f k = fp at *
          obtain ⟨pa, pb⟩ := fp
          clear hext hlt hj
          by_cases hq : x = name
          · rw [if_pos hq] at HSJ
            subst hq
            have HAS := Lib.hid (show pl ++ nmN x (pa, pb) (ins.take (j + 1)) = (pl ++ nmN x (pa, pb) (ins.take j)) ++ [((pa, pb), (j : Int))] by rw [HSJ.out, List.append_assoc])
            generalize pl ++ nmN x (pa, pb) (ins.take j) = pj at *
            subst hvo
            go_wp2_with fail
            refine HFK.out.mono ?_
            rintro e w8 ⟨rfl, he8⟩
            have HL1 := Lib.hid (RE.lit w8 #[.int .i64 pa, .int .i64 pb, .int .i64 (j : Int)] 61 1 [(((pa, pb), (j : Int)) : Po)] rfl (by omega) rfl)
            have HXA := Lib.hid ((Ext.refl w8).alloc (.cells #[.int .i64 pa, .int .i64 pb, .int .i64 (j : Int)] 61))
            have HOL := Lib.hid ((HO2.out.ext he8).ext HXA.out)
            have HXB := Lib.hid ((HE2.out.trans he8).trans HXA.out)
            clear ho he8 z0
            go_wp2_with (at_builtin; refine wpList_appE rfl elemPo _ _ _ rfl w.heap.size _ _ pj [(((pa, pb), (j : Int)) : Po)] rfl HOL.out rfl HL1.out (by have := HPJ.out; simp; omega) (by have := HPJ.out; unfold maxLen; simp; omega) HXB.out.size ?_; intro v9 w9 ho9 hg9 hat9)
            have HX9 := Lib.hid (HXB.out.grown hat9 fun g hg => (HOL.out.own.lt g hg).1)
            have HO9 := Lib.hid ho9
            clear ho9 hg9 hat9
            go_wp2
            exact ⟨⟨j + 1, HJT.out, by go_num, by rw [HAS.out]; exact HO9.out, HX9.out⟩, by have := HJT.out; simp [intOf]; omega⟩
          · rw [if_neg hq, List.append_nil] at HSJ
            have hqb : (x == name) = false := by simpa using hq
            have HAS := Lib.hid (show pl ++ nmN name (pa, pb) (ins.take (j + 1)) = pl ++ nmN name (pa, pb) (ins.take j) by rw [HSJ.out])
            clear hq ho
            go_wp2_with fail
            exact ⟨⟨j + 1, HJT.out, by go_num, by rw [HAS.out]; exact HO2.out, HE2.out⟩, by have := HJT.out; simp [intOf]; omega⟩
        · obtain rfl : j = ins.length := by omega
          have r1 : ¬ (ins.length : Int) < (ins.length : Int) := by omega
          rw [List.take_length] at HO2
          clear ho hext hj hlt
          go_wp2
          exact ⟨⟨k + 1, HLT.out, by go_num, by rw [HS.out]; exact HO2.out, HE2.out⟩, by have := HLT.out; simp [intOf]; omega⟩
    · obtain rfl : k = l.length := by omega
      have q1 : ¬ (l.length : Int) < (l.length : Int) := by omega
      rw [List.take_length] at HO
      clear ho hext hk hlt hvo
      go_wp2
      go_ret
      exact ⟨_, rfl, HO.out, HE.out⟩
end Go.Proofs.Ytcacicgkebcdkaa
