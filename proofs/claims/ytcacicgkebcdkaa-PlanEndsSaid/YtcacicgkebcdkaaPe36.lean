/-
  PlFns, packed: what the claim needs of them.
-/
import Derived.Test.YtcacicgkebcdkaaPe34
import Derived.Test.YtcacicgkebcdkaaPe35
set_option linter.unusedSimpArgs false
set_option linter.unusedVariables false
set_option maxRecDepth 100000
namespace Go.Ox.Pl
open Go.Ox.Gr Go.Proofs.Ytcacicgkebcdkaa
def srcL (g : G) (p : P2) : List P2 := (arcsL g).filterMap fun a => if a.1.2 = p then some a.1.1 else none
def insL (g : G) : List P2 := (gPl g).filter fun q => !(q.2 == -1)
theorem fmk {α β : Type} (f : α → Option β) (l : List α) {k : Nat} (h : k < l.length) : (l.take (k + 1)).filterMap f = (l.take k).filterMap f ++ (f l[k]).toList := by
  rw [List.take_succ_eq_append_getElem h, List.filterMap_append]
  cases hf : f l[k] <;> simp [hf]
theorem keep_filter {α : Type} (f : α → Bool) : ∀ (l : List α), keepS (fun (_ : Unit) x => (f x, ())) () l = l.filter fun x => !f x
  | [] => rfl
  | x :: l => by
    unfold keepS
    by_cases h : f x = true
    · rw [if_pos h, List.filter_cons_of_neg (by simp [h])]; exact keep_filter f l
    · rw [if_neg h, List.filter_cons_of_pos (by simpa using h)]; congr 1; exact keep_filter f l
theorem nd_pl {g : G} {p : P2} (h : (gNd g p).isSome = true) : p ∈ gPl g := by
  have hok : gOk g = true := by
    cases hq : gOk g with
    | true => rfl
    | false => unfold gNd at h; rw [if_neg (by rw [hq]; simp)] at h; cases h
  unfold gPl
  rw [if_pos hok]
  exact (gNd_places hok).1 h
end Go.Ox.Pl
namespace Go.Proofs.Ytcacicgkebcdkaa
open Go.RowKit Go.Ox Go.Ox.Gr Mo
theorem gPlaces_own (d : Nat) (v : Value) (g : G) (w : World) (hv : NodesR d w v g.1) :
    Calls Try.prog 27 #[gAg v g.2] w fun e w' => ∃ u, e = .returned u ∧ OE 26 w.heap.size w' u (gPl g) ∧ Ext w w' := by
  obtain ⟨l, out⟩ := g
  cases hok : gOk (l, out) with
  | true =>
    refine (gPlaces_ok d v l out w hv (body_le hok).1 (body_le hok).2 hok).mono ?_
    rintro e w' ⟨u, rfl, ho, he⟩
    exact ⟨u, rfl, by unfold gPl; rw [if_pos hok]; exact ho, he⟩
  | false =>
    refine (gPlaces_bad d v l out w hv hok).mono ?_
    rintro e w' ⟨rfl, he⟩
    exact ⟨_, rfl, by unfold gPl; rw [if_neg (by rw [hok]; simp)]; exact OE.nilS _ _ _, he⟩
set_option maxHeartbeats 1000000 in
theorem inside1_any (p : Pl.P2) (w : World) : Calls Try.prog 38 #[plV p] w fun e w' => e = .returned (.bool (p.2 == -1)) ∧ Ext w w' := by
  obtain ⟨p1, p2⟩ := p
  generalize hr : (p2 == -1) = r
  have HX := Lib.hid ((Ext.refl w).alloc (.cells #[.int .i64 p1, .int .i64 p2] 26))
  have HB := Lib.hid (Blk.new w 26 #[.int .i64 p1, .int .i64 p2])
  go_enter Try.func38, Try.ntmps38
  go_upto_region 1 with fail
  generalize w.heap.size = q at *
  generalize w.alloc (.cells #[.int .i64 p1, .int .i64 p2] 26) = w0 at *
  have c1 : w0.cell? ⟨q, 1, none⟩ = some (.int .i64 p2) := HB.out.cell 1
  go_wp2
  go_ret
  exact ⟨rfl, HX.out⟩
theorem egI : ∀ args w, (callFunc 38 args).run Try.prog w = .ok (.enter 38 args) w := enters_of Try.func38 (by kernel_rfl) rfl
theorem dels_any (v : Value) (l : List Pl.P2) (base : Nat) (w : World) (ho : OE 26 base w v l) (hl : l.length ≤ 1000000000) (hbs : base ≤ w.heap.size) :
    Calls Try.prog 37 #[v, .func (.func 38) #[] #[]] w fun e w' => ∃ u, e = .returned u ∧ OE 26 base w' u (l.filter fun q => !(q.2 == -1)) ∧ ∃ b, base ≤ b ∧ ExtQ (fun k => k = b) w w' := by
  obtain ⟨b, hb, hbb⟩ : ∃ b, (∀ k, v.ownBlock = some k → k = b) ∧ base ≤ b := by
    cases hv : v.ownBlock with
    | none => exact ⟨w.heap.size, (fun k h => nomatch h), hbs⟩
    | some b => exact ⟨b, (fun k h => (Option.some.inj h).symm), (ho.own.lt b hv).1⟩
  have h := delPls_any (σ := Unit) (fun _ p => (p.2 == -1, ())) 38 #[] egI (fun _ _ => True) (fun _ => False) b base (fun _ _ _ _ _ => trivial) (fun h => h) v l w ho hb (fun _ h => h.elim) () trivial hl
    (fun j hj W _ => (inside1_any l[j] W).mono fun e W' ⟨h1, h2⟩ => ⟨h1, trivial, ExtQ.of h2⟩)
  refine h.mono ?_
  rintro e w' ⟨u, rfl, hu, _, _, hx⟩
  refine ⟨u, rfl, ?_, b, hbb, hx.mono fun k hk => hk.elim False.elim id⟩
  rw [← Pl.keep_filter (fun q : Pl.P2 => q.2 == -1) l]
  exact hu
attribute [local irreducible] RE OE NodesR WM
set_option maxHeartbeats 2000000 in
theorem inside_any (d : Nat) (v : Value) (g : G) (w : World) (hv : NodesR d w v g.1) :
    Calls Try.prog 11 #[gAg v g.2] w fun e w' => ∃ u, e = .returned u ∧ RE w' u (Pl.insL g) ∧ Ext w w' := by
  have HPL := Lib.hid (fun W (h : Ext w W) => gPlaces_own d v g W (hv.ext h))
  have HN := Lib.hid (Pl.gPl_len g)
  have HI := Lib.hid (show Pl.insL g = (gPl g).filter (fun q => !(q.2 == -1)) from rfl)
  obtain ⟨l, out⟩ := g
  generalize Pl.insL (l, out) = IL at *
  generalize gPl (l, out) = PL at *
  obtain ⟨A, c, rfl⟩ := hv.form
  have HX0 := Lib.hid ((Ext.refl w).alloc (gCs (.slice A l.length c) out))
  have HB0 := Lib.hid (Blk.new w 24 #[.slice A l.length c, .int .i64 out])
  clear hv
  go_enter Try.func11, Try.ntmps11
  go_upto_region 1 with fail
  generalize w.heap.size = p at *
  generalize w.alloc (gCs (.slice A l.length c) out) = w0 at *
  have c0 : w0.cell? ⟨p, 0, none⟩ = some (.slice A l.length c) := HB0.out.cell 0
  have c1 : w0.cell? ⟨p, 1, none⟩ = some (.int .i64 out) := HB0.out.cell 1
  go_wp2_with fail
  refine (HPL.out w0 HX0.out).mono ?_
  rintro e w1 ⟨uv, rfl, huv, he1⟩
  have HU := Lib.hid huv
  have HX1 := Lib.hid (HX0.out.trans he1)
  have HS := Lib.hid he1.size
  clear huv he1 c0 c1
  go_wp2_with fail
  refine (dels_any uv PL w0.heap.size w1 HU.out (by have := HN.out; omega) HS.out).mono ?_
  rintro e w2 ⟨ur, rfl, hur, b, hb, hx⟩
  have HR := Lib.hid (show RE w2 ur IL from by rw [HI.out]; exact hur.re)
  have HX2 := Lib.hid (HX1.out.andQ hx (fun i hi => by have h1 := HX0.out.size; omega))
  obtain ⟨AR, cR, rfl⟩ := HR.out.form
  clear hur hx hb
  go_wp2
  go_ret
  exact ⟨_, rfl, HR.out, HX2.out⟩
theorem res2 {w w0 : World} {p : Nat} {T : TypeId} {a b : Value} (h : Blk w p T #[a, b]) (hx : Ext w0 w) (hp : w0.heap.size ≤ p) (u v : Value) :
    ((w.setCell ⟨p, 0, none⟩ u).setCell ⟨p, 1, none⟩ v).cell? ⟨p, 0, none⟩ = some u ∧ ((w.setCell ⟨p, 0, none⟩ u).setCell ⟨p, 1, none⟩ v).cell? ⟨p, 1, none⟩ = some v ∧ Ext w0 ((w.setCell ⟨p, 0, none⟩ u).setCell ⟨p, 1, none⟩ v) :=
  ⟨((h.set_ 0 u).set_ 1 v).cell 0, ((h.set_ 0 u).set_ 1 v).cell 1, Ext.setCell (Ext.setCell hx hp _) hp _⟩
def lastO (l : List Pl.P2) : Value := match l.getLast? with | none => .tuple #[plV (0, 0), .bool false] | some q => .tuple #[plV q, .bool true]
set_option maxHeartbeats 2000000 in
theorem last_any (d : Nat) (v : Value) (g : G) (w : World) (hv : NodesR d w v g.1) :
    Calls Try.prog 12 #[gAg v g.2] w fun e w' => e = .returned (lastO (Pl.insL g)) ∧ Ext w w' := by
  have HIN := Lib.hid (fun W (h : Ext w W) => inside_any d v g W (hv.ext h))
  have HNI := Lib.hid (show (Pl.insL g).length ≤ 10100 from Nat.le_trans (List.length_filter_le _ _) (Pl.gPl_len g))
  obtain ⟨l, out⟩ := g
  generalize Pl.insL (l, out) = IL at *
  obtain ⟨A, c, rfl⟩ := hv.form
  have HX0 := Lib.hid (((Ext.refl w).alloc (gCs (.slice A l.length c) out)).alloc (.cells #[.int .i64 0, .int .i64 0] 26))
  have HB0 := Lib.hid ((Blk.new w 24 #[.slice A l.length c, .int .i64 out]).ext ((Ext.refl _).alloc (.cells #[.int .i64 0, .int .i64 0] 26)))
  have HR0 := Lib.hid (Blk.new (w.alloc (gCs (.slice A l.length c) out)) 26 #[.int .i64 0, .int .i64 0])
  clear hv
  go_enter Try.func12, Try.ntmps12
  go_upto_region 1 with fail
  obtain ⟨p, hp⟩ : ∃ p, p = w.heap.size := ⟨_, rfl⟩
  have hq1 : (w.alloc (gCs (.slice A l.length c) out)).heap.size = p + 1 := by rw [hp]; simp
  rw [hq1] at HR0
  rw [← hp] at HB0 ⊢
  have HPS := Lib.hid (show w.heap.size ≤ p + 1 from by omega)
  clear hp hq1
  generalize (w.alloc (gCs (.slice A l.length c) out)).alloc (.cells #[.int .i64 0, .int .i64 0] 26) = w0 at *
  have c0 : w0.cell? ⟨p, 0, none⟩ = some (.slice A l.length c) := HB0.out.cell 0
  have c1 : w0.cell? ⟨p, 1, none⟩ = some (.int .i64 out) := HB0.out.cell 1
  go_wp2_with fail
  refine (HIN.out w0 HX0.out).mono ?_
  rintro e w1 ⟨uv, rfl, huv, he1⟩
  obtain ⟨AV, cV, rfl⟩ := huv.form
  have HU := Lib.hid huv
  have HX1 := Lib.hid (HX0.out.trans he1)
  have HR1 := Lib.hid (HR0.out.ext he1)
  clear huv he1 c0 c1
  have r0 : w1.cell? ⟨p + 1, 0, none⟩ = some (.int .i64 0) := HR1.out.cell 0
  have r1 : w1.cell? ⟨p + 1, 1, none⟩ = some (.int .i64 0) := HR1.out.cell 1
  have f0 := HR1.out.frozen 0
  have f1 := HR1.out.frozen 1
  have t0 := fun u => (HR1.out.set_ 0 u).frozen 1
  have t1 := fun u => (HR1.out.set_ 0 u).cell 1
  rcases List.eq_nil_or_concat IL with rfl | ⟨IL', x, hIL⟩
  · go_wp2
    obtain ⟨y0, y1, hy⟩ := res2 HR1.out HX1.out HPS.out (.int .i64 0) (.int .i64 0)
    generalize ((w1.setCell ⟨p + 1, 0, none⟩ (.int .i64 0)).setCell ⟨p + 1, 1, none⟩ (.int .i64 0)) = wz at *
    exact bodyPost_ret (v := .tuple #[plV (0, 0), .bool false]) (by simp [results, Try.results12, go_sem, y0, y1]) rfl ⟨rfl, hy⟩
  · rw [List.concat_eq_append] at hIL
    obtain ⟨n, hn⟩ : ∃ n, IL.length = n + 1 := ⟨IL'.length, by rw [hIL]; simp⟩
    have hlt : n < IL.length := by omega
    obtain ⟨bB, oB, hAV, hcV⟩ := RE.at_ HU.out hlt
    have hnx : IL[n] = x := by
      have : n = IL'.length := by rw [hIL] at hn; simp at hn; omega
      subst this
      simp [hIL]
    rw [hnx] at hcV
    have HLO := Lib.hid (show lastO IL = .tuple #[plV x, .bool true] from by unfold lastO; rw [hIL]; simp)
    clear hIL
    obtain ⟨x1, x2⟩ := x
    have k0 : w1.cell? ⟨bB, oB + n * 2, none⟩ = some (.int .i64 x1) := hcV 0 _ rfl
    have k1 : w1.cell? ⟨bB, oB + n * 2 + 1, none⟩ = some (.int .i64 x2) := hcV 1 _ rfl
    subst hAV
    have HN := Lib.hid (show n ≤ 10100 from by have := HNI.out; omega)
    clear hcV hlt hnx HU HNI
    generalize IL.length = m at *
    subst hn
    have u1 : (((n + 1 : Nat) : Int) - 1) = (n : Int) := by omega
    have u2 : IntKind.i64.wrap (n : Int) = (n : Int) := IntWalk.i64_in _ (by have := HN.out; omega)
    have u3 : (((n + 1 : Nat) : Int) == 0) = false := by simp; omega
    have u4 : (n : Int) < ((n + 1 : Nat) : Int) := by omega
    obtain ⟨m, hm⟩ : ∃ m, m = n + 1 := ⟨_, rfl⟩
    rw [← hm] at u1 u3 u4 ⊢
    clear hm
    go_wp2
    rw [HLO.out]
    obtain ⟨y0, y1, hy⟩ := res2 HR1.out HX1.out HPS.out (.int .i64 x1) (.int .i64 x2)
    generalize ((w1.setCell ⟨p + 1, 0, none⟩ (.int .i64 x1)).setCell ⟨p + 1, 1, none⟩ (.int .i64 x2)) = wz at *
    exact bodyPost_ret (v := .tuple #[plV (x1, x2), .bool true]) (by simp [results, Try.results12, go_sem, y0, y1]) rfl ⟨rfl, hy⟩
set_option maxHeartbeats 4000000 in
theorem sources_any (d : Nat) (v : Value) (g : G) (p : Pl.P2) (w : World) (hv : NodesR d w v g.1) (hn : (gPl g).length ≤ 20) :
    Calls Try.prog 10 #[gAg v g.2, plV p] w fun e w' => ∃ u, e = .returned u ∧ RE w' u (Pl.srcL g p) ∧ Ext w w' := by
  have HAR := Lib.hid (fun W (h : Ext w W) => arcs_own d v g W (hv.ext h) hn)
  have HAL := Lib.hid (Pl.arcsL_len hn)
  have HSL := Lib.hid (show Pl.srcL g p = (Pl.arcsL g).filterMap (fun a => if a.1.2 = p then some a.1.1 else none) from rfl)
  obtain ⟨l, out⟩ := g
  generalize Pl.srcL (l, out) p = SL at *
  generalize Pl.arcsL (l, out) = AL at *
  obtain ⟨A, c, rfl⟩ := hv.form
  have HX0 := Lib.hid (((Ext.refl w).alloc (gCs (.slice A l.length c) out)).alloc (.cells #[.int .i64 p.1, .int .i64 p.2] 26))
  have HB0 := Lib.hid ((Blk.new w 24 #[.slice A l.length c, .int .i64 out]).ext ((Ext.refl _).alloc (.cells #[.int .i64 p.1, .int .i64 p.2] 26)))
  have HP0 := Lib.hid (Blk.new (w.alloc (gCs (.slice A l.length c) out)) 26 #[.int .i64 p.1, .int .i64 p.2])
  obtain ⟨p1, p2⟩ := p
  dsimp only at HX0 HB0 HP0
  obtain ⟨F, hF⟩ : ∃ F : Pl.Ar → Option Pl.P2, F = fun a => if a.1.2 = (p1, p2) then some a.1.1 else none := ⟨_, rfl⟩
  rw [← hF] at HSL
  have HF := Lib.hid (show ∀ a, F a = if a.1.2 = (p1, p2) then some a.1.1 else none from fun a => by rw [hF])
  clear hv hn hF
  go_enter Try.func10, Try.ntmps10
  go_upto_region 1 with fail
  obtain ⟨q, hq⟩ : ∃ q, q = w.heap.size := ⟨_, rfl⟩
  have hq1 : (w.alloc (gCs (.slice A l.length c) out)).heap.size = q + 1 := by rw [hq]; simp
  rw [hq1] at HP0
  rw [← hq] at HB0 ⊢
  clear hq hq1
  generalize (w.alloc (gCs (.slice A l.length c) out)).alloc (.cells #[.int .i64 p1, .int .i64 p2] 26) = w0 at *
  have c0 : w0.cell? ⟨q, 0, none⟩ = some (.slice A l.length c) := HB0.out.cell 0
  have c1 : w0.cell? ⟨q, 1, none⟩ = some (.int .i64 out) := HB0.out.cell 1
  go_wp2_with fail
  refine (HAR.out w0 HX0.out).mono ?_
  rintro e w1 ⟨ua, rfl, hua, he1⟩
  obtain ⟨AA, cA, rfl⟩ := hua.re.form
  have HA1 := Lib.hid hua.re
  have HX1 := Lib.hid (HX0.out.trans he1)
  have HP1 := Lib.hid (HP0.out.ext he1)
  clear hua he1 c0 c1 HX0 HB0 HP0
  go_wp2
  go_loopw [5, 11] (fun o iv wr => ∃ k : Nat, k ≤ AL.length ∧ iv = .int .i64 (k : Int) ∧ OE 26 w1.heap.size wr o ((AL.take k).filterMap F) ∧ Ext w1 wr) (fun _ iv _ => AL.length - (intOf iv).toNat)
  case atStart => exact ⟨0, Nat.zero_le _, rfl, OE.nilS _ _ _, Ext.refl _⟩
  case round =>
    obtain ⟨k, hk, rfl, ho, hx⟩ := hrel
    rename World => wr
    have HO := Lib.hid ho
    have HX := Lib.hid hx
    have HAX := Lib.hid (HA1.out.ext hx)
    obtain ⟨AO, cO, hvo⟩ := ho.re.form
    clear ho hx
    by_cases hlt : k < AL.length
    · have r1 : (k : Int) < (AL.length : Int) := by omega
      have hk9 : (k : Int) + 1 ≤ 1000000 := by have := HAL.out; omega
      have HLT := Lib.hid hlt
      obtain ⟨bA, oA, hAA, hcA⟩ := RE.at_ HAX.out hlt
      have HTK := Lib.hid (Pl.fmk F AL hlt)
      have HFY := Lib.hid (HF.out AL[k])
      generalize AL[k] = y at *
      obtain ⟨⟨⟨f1, f2⟩, t1, t2⟩, s, ad⟩ := y
      obtain ⟨FK, hFK⟩ : ∃ FK, FK = (AL.take k).filterMap F := ⟨_, rfl⟩
      have HFK := Lib.hid (show FK.length ≤ 400 from by rw [hFK]; exact Nat.le_trans (List.length_filterMap_le _ _) (by rw [List.length_take]; have := HAL.out; omega))
      rw [← hFK] at HO hvo HTK
      clear hFK
      have k0 : wr.cell? ⟨bA, oA + k * 6, none⟩ = some (.int .i64 f1) := hcA 0 _ rfl
      have k1 : wr.cell? ⟨bA, oA + k * 6 + 1, none⟩ = some (.int .i64 f2) := hcA 1 _ rfl
      have k2 : wr.cell? ⟨bA, oA + k * 6 + 2, none⟩ = some (.int .i64 t1) := hcA 2 _ rfl
      have k3 : wr.cell? ⟨bA, oA + k * 6 + 3, none⟩ = some (.int .i64 t2) := hcA 3 _ rfl
      have k4 : wr.cell? ⟨bA, oA + k * 6 + 4, none⟩ = some (.bool s) := hcA 4 _ rfl
      have k5 : wr.cell? ⟨bA, oA + k * 6 + 5, none⟩ = some (.int .i64 ad) := hcA 5 _ rfl
      subst hAA
      subst hvo
      have HXN := Lib.hid ((Ext.refl wr).alloc (.cells #[.int .i64 f1, .int .i64 f2, .int .i64 t1, .int .i64 t2, .bool s, .int .i64 ad] 39))
      have HYN := Lib.hid (Blk.new wr 39 #[.int .i64 f1, .int .i64 f2, .int .i64 t1, .int .i64 t2, .bool s, .int .i64 ad])
      clear hcA hlt hk HAX
      go_upto_region 5 with fail
      clear k0 k1 k2 k3 k4 k5
      obtain ⟨q8, hq8⟩ : ∃ q, q = wr.heap.size := ⟨_, rfl⟩
      rw [← hq8] at HYN ⊢
      clear hq8
      have HO5 := Lib.hid (HO.out.ext HXN.out)
      have HX5 := Lib.hid (HX.out.trans HXN.out)
      generalize wr.alloc (.cells #[.int .i64 f1, .int .i64 f2, .int .i64 t1, .int .i64 t2, .bool s, .int .i64 ad] 39) = w5 at *
      clear HXN HO HX
      have HP5 := Lib.hid (HP1.out.ext HX5.out)
      have a0 : w5.cell? ⟨q8, 0, none⟩ = some (.int .i64 f1) := HYN.out.cell 0
      have a1 : w5.cell? ⟨q8, 1, none⟩ = some (.int .i64 f2) := HYN.out.cell 1
      have a2 : w5.cell? ⟨q8, 2, none⟩ = some (.int .i64 t1) := HYN.out.cell 2
      have a3 : w5.cell? ⟨q8, 3, none⟩ = some (.int .i64 t2) := HYN.out.cell 3
      have p0 : w5.cell? ⟨q + 1, 0, none⟩ = some (.int .i64 p1) := HP5.out.cell 0
      have p1' : w5.cell? ⟨q + 1, 1, none⟩ = some (.int .i64 p2) := HP5.out.cell 1
      have heq := eqPlD t1 t2 p1 p2
      by_cases htp : (t1, t2) = (p1, p2)
      · rw [decide_eq_true htp] at heq
        have HN := Lib.hid (show (AL.take (k + 1)).filterMap F = FK ++ [(f1, f2)] from by rw [HTK.out, HFY.out, if_pos htp]; rfl)
        clear htp
        have HL1 := Lib.hid (RE.lit w5 #[.int .i64 f1, .int .i64 f2] 26 1 [(f1, f2)] rfl (by omega) rfl)
        have HXA := Lib.hid ((Ext.refl w5).alloc (.cells #[.int .i64 f1, .int .i64 f2] 26))
        have HOL := Lib.hid (HO5.out.ext HXA.out)
        have HXB := Lib.hid (HX5.out.trans HXA.out)
        go_wp2_with (at_builtin; refine wpList_appE rfl elemPl _ _ _ rfl w1.heap.size _ _ FK [(f1, f2)] rfl HOL.out rfl HL1.out (by have h1 := HFK.out; simp; omega) (by have h1 := HFK.out; unfold maxLen; simp; omega) HXB.out.size ?_; intro v7 w7 ho7 hg7 hat7)
        have HX7 := HXB.out.grown hat7 fun g hg => (HOL.out.own.lt g hg).1
        exact ⟨⟨k + 1, HLT.out, by go_num, by rw [HN.out]; exact ho7, HX7⟩, by have := HLT.out; simp [intOf]; omega⟩
      · rw [decide_eq_false htp] at heq
        have HN := Lib.hid (show (AL.take (k + 1)).filterMap F = FK from by rw [HTK.out, HFY.out, if_neg htp]; simp)
        clear htp
        go_wp2
        exact ⟨⟨k + 1, HLT.out, by go_num, by rw [HN.out]; exact HO5.out, HX5.out⟩, by have := HLT.out; simp [intOf]; omega⟩
    · have r1 : ¬ (k : Int) < (AL.length : Int) := by omega
      obtain rfl : k = AL.length := by omega
      rw [List.take_length, ← HSL.out] at HO hvo
      subst hvo
      have HR := Lib.hid HO.out.re
      have HG := Lib.hid (HX1.out.trans HX.out)
      clear hk hlt HO
      go_wp2
      go_ret
      exact ⟨_, rfl, HR.out, HG.out⟩
end Go.Proofs.Ytcacicgkebcdkaa
