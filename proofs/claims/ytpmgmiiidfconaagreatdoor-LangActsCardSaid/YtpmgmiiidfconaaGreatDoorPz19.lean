/-
  LaAct2, packed: what the claim needs of them.
-/
import Derived.Test.YtpmgmiiidfconaaGreatDoorPz18
import Derived.Test.YtpmgmiiidfconaaGreatDoorPz10
set_option linter.unusedVariables false
set_option linter.unusedSimpArgs false
namespace Go.Ox.La
open Go Go.Lib Go.Ox.Sc
def zAct : Sc.Act := ((0, 0, 0, 0, 0), [])
theorem bs_t {x y : W} (h : x = y) : ((⟨x.toArray⟩ : ByteArray) == ⟨y.toArray⟩) = true := by
  subst h
  show (x.toArray == x.toArray) = true
  simp
theorem bs_f {x y : W} (h : ¬ x = y) : ((⟨x.toArray⟩ : ByteArray) == ⟨y.toArray⟩) = false := by
  show (x.toArray == y.toArray) = false
  rw [← Bool.not_eq_true]
  intro h2
  have h4 : x.toArray = y.toArray := eq_of_beq h2
  exact h (by simpa using congrArg Array.toList h4)
theorem bs_n {x y : W} (h : ¬ x = y) : ¬ (⟨x.toArray⟩ : ByteArray) = ⟨y.toArray⟩ := by
  intro h3
  have h4 : x.toArray = y.toArray := congrArg ByteArray.data h3
  exact h (by simpa using congrArg Array.toList h4)
theorem actL_bad {x : W} {l : List W} (h : wnsOk l = false) : actL (x :: l) = none := by
  unfold actL
  simp only
  rw [if_neg (fun q => by rw [h] at q; simp at q)]
theorem actL_no {x : W} {l : List W} (h : actOk (mkAct x (wnsB l)) = false) : actL (x :: l) = none := by
  unfold actL
  simp only
  rw [if_neg (fun q => by rw [h] at q; simp at q)]
theorem actL_yes {x : W} {l : List W} (h : wnsOk l = true) (h2 : actOk (mkAct x (wnsB l)) = true) : actL (x :: l) = some (mkAct x (wnsB l)) := by
  unfold actL
  simp only
  rw [if_pos ⟨h, h2⟩]
end Go.Ox.La
namespace Go.Proofs.YtpmgmiiidfconaaGreatDoor
open Go.RowKit Go.Ox Go.Ox.Gr Go.Ox.Sc Go.Ox.La Go.Shelf
theorem lo1 {α : Type} [C : Enc α] {t e : TypeId} {z : Value} {bytes c : Nat} {P : Program} {A : Option Addr} {l : List α} (el : Elem P t e z C.k bytes) {w : World} (h : RE w (.slice A l.length c) l) (hk : 1 ≤ l.length) :
    ∃ A', (∀ w', (Instr.slice t (.slice A l.length c) (some (.int .i64 1)) none none).run P w' = .ok (.slice A' (l.length - 1) (c - 1)) w') ∧ RE w (.slice A' (l.length - 1) (c - 1)) (l.drop 1) := by
  obtain ⟨A', h1, h2⟩ := RE.lo (k := 1) el h hk
  exact ⟨A', h1, h2⟩
theorem reI1 {w : World} {A : Option Addr} {n c : Nat} {l : List Int} (h : RE w (.slice A n c) l) {k : Nat} (hk : k < l.length) :
    ∃ b o, A = some ⟨b, o, none⟩ ∧ w.cell? ⟨b, o + k, none⟩ = some (.int .i64 l[k]) := by
  obtain ⟨b, o, e, h2⟩ := h.at_ hk
  have := h2 0 _ rfl
  rw [show Enc.k Int = 1 from rfl, Nat.mul_one, Nat.add_zero] at this
  exact ⟨b, o, e, this⟩
attribute [local irreducible] RE OE
set_option maxRecDepth 100000 in
set_option maxHeartbeats 64000000 in
theorem rAct29_any (A : Option Addr) (c : Nat) (l : List W) (w : World) (hR : RE w (.slice A l.length c) l) (hl : l.length ≤ 1000000) (hw : ∀ x ∈ l, x.length ≤ 1000000) :
    Calls Tryz.prog 6 #[.slice A l.length c] w fun e w' => ∃ (g : Sc.Act) (u : Value), (actL l).getD zAct = g ∧ e = .returned (.tuple #[actAg g.1.1 g.1.2.1 g.1.2.2.1 g.1.2.2.2.1 g.1.2.2.2.2 u, .bool (actL l).isSome]) ∧ OE 3 w.heap.size w' u g.2 ∧ Ext w w' := by
  have HX4 := Lib.hid ((Ext.refl w).alloc (actCs 0 0 0 0 0 (.slice none 0 0)))
  have HB4 := Lib.hid (Bx6.new w 24 (.int .i64 0) (.int .i64 0) (.int .i64 0) (.int .i64 0) (.int .i64 0) (.slice none 0 0))
  obtain ⟨p, hp⟩ : ∃ p, p = w.heap.size := ⟨_, rfl⟩
  cases l with
  | nil =>
    have HA := Lib.hid (show actL [] = none from rfl)
    clear hR hl hw
    go_enter Tryz.func6, Tryz.ntmps6
    go_upto_region 1 with fail
    rw [← hp] at HB4 ⊢
    have HP := Lib.hid hp
    clear hp
    generalize w.alloc (actCs 0 0 0 0 0 (.slice none 0 0)) = w4 at *
    have f0 : (w4).frozen? ⟨p, 0, none⟩ = false := HB4.out.b.frozen 0
    have f1 : (w4).frozen? ⟨p, 1, none⟩ = false := HB4.out.b.frozen 1
    have f2 : (w4).frozen? ⟨p, 2, none⟩ = false := HB4.out.b.frozen 2
    have f3 : (w4).frozen? ⟨p, 3, none⟩ = false := HB4.out.b.frozen 3
    have f4 : (w4).frozen? ⟨p, 4, none⟩ = false := HB4.out.b.frozen 4
    have f5 : (w4).frozen? ⟨p, 5, none⟩ = false := HB4.out.b.frozen 5
    have HF := Lib.hid (HB4.out.fill (.int .i64 0) (.int .i64 0) (.int .i64 0) (.int .i64 0) (.int .i64 0) (.slice none 0 0))
    have hq9 := extQ6 (ExtQ.refl (fun k => k = p) w4) (q := p) rfl (.int .i64 0) (.int .i64 0) (.int .i64 0) (.int .i64 0) (.int .i64 0) (.slice none 0 0)
    have HXF := Lib.hid (HX4.out.andQ hq9 (fun k hk => by have := HP.out; omega))
    have HOF := Lib.hid (show OE 3 w.heap.size (((((((w4).setCell ⟨p, 0, none⟩ (.int .i64 0)).setCell ⟨p, 1, none⟩ (.int .i64 0)).setCell ⟨p, 2, none⟩ (.int .i64 0)).setCell ⟨p, 3, none⟩ (.int .i64 0)).setCell ⟨p, 4, none⟩ (.int .i64 0)).setCell ⟨p, 5, none⟩ (.slice none 0 0)) (.slice none 0 0) ([] : List Int) from OE.nilS _ _ _)
    clear hq9
    obtain ⟨d0, d1, d2, d3, d4, d5⟩ := HB4.out.at_
    go_wp2
    generalize ((((((w4).setCell ⟨p, 0, none⟩ (.int .i64 0)).setCell ⟨p, 1, none⟩ (.int .i64 0)).setCell ⟨p, 2, none⟩ (.int .i64 0)).setCell ⟨p, 3, none⟩ (.int .i64 0)).setCell ⟨p, 4, none⟩ (.int .i64 0)).setCell ⟨p, 5, none⟩ (.slice none 0 0) = wz at *
    obtain ⟨y0, y1, y2, y3, y4, y5⟩ := HF.out.at_
    exact bodyPost_ret (v := .tuple #[.agg #[.int .i64 0, .int .i64 0, .int .i64 0, .int .i64 0, .int .i64 0, .slice none 0 0], .bool false]) (by simp [results, Tryz.results6, go_sem, y0, y1, y2, y3, y4, y5]) rfl ⟨zAct, _, by rw [HA.out]; rfl, by rw [HA.out]; rfl, HOF.out, HXF.out⟩
  | cons x rest =>
    have HRL := Lib.hid (show rest.length ≤ 1000000 from by simp at hl; omega)
    have HRW := Lib.hid (show ∀ x ∈ rest, x.length ≤ 1000000 from fun y hy => hw y (List.mem_cons_of_mem _ hy))
    have HXL := Lib.hid (hw x (List.mem_cons_self ..))
    obtain ⟨A1, hlo, hr1⟩ := lo1 elemW hR (by simp)
    rw [show (x :: rest).length - 1 = rest.length from by simp] at hlo hr1
    have HR1 := Lib.hid hr1
    obtain ⟨b, o, rfl, hx⟩ := reW1 hR (k := 0) (by simp)
    rw [Nat.add_zero] at hx
    have hx : w.cell? ⟨b, o, none⟩ = some (strV x) := hx
    have HC := Lib.hid (fun w h => rnums_any A1 (c - 1) rest w h HRL.out HRW.out)
    have HXX := Lib.hid hx
    obtain ⟨n, hn⟩ : ∃ n, (x :: rest).length = n := ⟨_, rfl⟩
    rw [hn] at hlo ⊢
    have q0 : ¬ (n : Int) = 0 := by rw [← hn]; simp; omega
    have q1 : ¬ n = 0 := by rw [← hn]; simp
    have q2 : (0 : Int) < (n : Int) := by omega
    clear hl hw hR hn hx hr1
    go_enter Tryz.func6, Tryz.ntmps6
    go_upto_region 1 with fail
    rw [← hp] at HB4 ⊢
    have HP := Lib.hid hp
    clear hp
    generalize w.alloc (actCs 0 0 0 0 0 (.slice none 0 0)) = w0 at *
    have HPL := Lib.hid (show p < w0.heap.size from HB4.out.b.lt)
    have HWL := Lib.hid HX4.out.size
    go_wp2_with fail
    refine (HC.out _ (HR1.out.ext HX4.out)).mono ?_
    rintro e w4 ⟨u, rfl, ho, he⟩
    have HX4 := Lib.hid (HX4.out.trans he)
    have HB4 := Lib.hid (HB4.out.ext he)
    clear he
    cases hok : wnsOk rest with
    | false =>
      have HA := Lib.hid (actL_bad (x := x) hok)
      clear ho hlo hok
      have f0 : (w4).frozen? ⟨p, 0, none⟩ = false := HB4.out.b.frozen 0
      have f1 : (w4).frozen? ⟨p, 1, none⟩ = false := HB4.out.b.frozen 1
      have f2 : (w4).frozen? ⟨p, 2, none⟩ = false := HB4.out.b.frozen 2
      have f3 : (w4).frozen? ⟨p, 3, none⟩ = false := HB4.out.b.frozen 3
      have f4 : (w4).frozen? ⟨p, 4, none⟩ = false := HB4.out.b.frozen 4
      have f5 : (w4).frozen? ⟨p, 5, none⟩ = false := HB4.out.b.frozen 5
      have HF := Lib.hid (HB4.out.fill (.int .i64 0) (.int .i64 0) (.int .i64 0) (.int .i64 0) (.int .i64 0) (.slice none 0 0))
      have hq9 := extQ6 (ExtQ.refl (fun k => k = p) w4) (q := p) rfl (.int .i64 0) (.int .i64 0) (.int .i64 0) (.int .i64 0) (.int .i64 0) (.slice none 0 0)
      have HXF := Lib.hid (HX4.out.andQ hq9 (fun k hk => by have := HP.out; omega))
      have HOF := Lib.hid (show OE 3 w.heap.size (((((((w4).setCell ⟨p, 0, none⟩ (.int .i64 0)).setCell ⟨p, 1, none⟩ (.int .i64 0)).setCell ⟨p, 2, none⟩ (.int .i64 0)).setCell ⟨p, 3, none⟩ (.int .i64 0)).setCell ⟨p, 4, none⟩ (.int .i64 0)).setCell ⟨p, 5, none⟩ (.slice none 0 0)) (.slice none 0 0) ([] : List Int) from OE.nilS _ _ _)
      clear hq9
      obtain ⟨d0, d1, d2, d3, d4, d5⟩ := HB4.out.at_
      go_wp2
      generalize ((((((w4).setCell ⟨p, 0, none⟩ (.int .i64 0)).setCell ⟨p, 1, none⟩ (.int .i64 0)).setCell ⟨p, 2, none⟩ (.int .i64 0)).setCell ⟨p, 3, none⟩ (.int .i64 0)).setCell ⟨p, 4, none⟩ (.int .i64 0)).setCell ⟨p, 5, none⟩ (.slice none 0 0) = wz at *
      obtain ⟨y0, y1, y2, y3, y4, y5⟩ := HF.out.at_
      exact bodyPost_ret (v := .tuple #[.agg #[.int .i64 0, .int .i64 0, .int .i64 0, .int .i64 0, .int .i64 0, .slice none 0 0], .bool false]) (by simp [results, Tryz.results6, go_sem, y0, y1, y2, y3, y4, y5]) rfl ⟨zAct, _, by rw [HA.out]; rfl, by rw [HA.out]; rfl, HOF.out, HXF.out⟩
    | true =>
      rw [hok, if_pos rfl] at ho
      have HN := Lib.hid (@actL_no x rest)
      have HYS := Lib.hid (@actL_yes x rest hok)
      have HNL := Lib.hid (show (wnsB rest).length ≤ 1000000 from by rw [wnsB_len]; exact HRL.out)
      generalize wnsB rest = ns at *
      have HO := Lib.hid ho
      obtain ⟨AN, cN, rfl⟩ := ho.re.form
      clear ho hok
      have hq0 : Ext w4 (w4.alloc (actCs 0 0 0 0 0 (.slice none 0 0))) := (Ext.refl w4).alloc _
      have hb0 := Bx6.new w4 24 (.int .i64 0) (.int .i64 0) (.int .i64 0) (.int .i64 0) (.int .i64 0) (.slice none 0 0)
      obtain ⟨q, hq⟩ : ∃ q, q = w4.heap.size := ⟨_, rfl⟩
      have HQ := Lib.hid hq
      have f0 : (w4.alloc (actCs 0 0 0 0 0 (.slice none 0 0))).frozen? ⟨w4.heap.size, 0, none⟩ = false := hb0.b.frozen 0
      have f1 : (w4.alloc (actCs 0 0 0 0 0 (.slice none 0 0))).frozen? ⟨w4.heap.size, 1, none⟩ = false := hb0.b.frozen 1
      have f2 : (w4.alloc (actCs 0 0 0 0 0 (.slice none 0 0))).frozen? ⟨w4.heap.size, 2, none⟩ = false := hb0.b.frozen 2
      have f3 : (w4.alloc (actCs 0 0 0 0 0 (.slice none 0 0))).frozen? ⟨w4.heap.size, 3, none⟩ = false := hb0.b.frozen 3
      have f4 : (w4.alloc (actCs 0 0 0 0 0 (.slice none 0 0))).frozen? ⟨w4.heap.size, 4, none⟩ = false := hb0.b.frozen 4
      have f5 : (w4.alloc (actCs 0 0 0 0 0 (.slice none 0 0))).frozen? ⟨w4.heap.size, 5, none⟩ = false := hb0.b.frozen 5
      obtain ⟨d0, d1, d2, d3, d4, d5⟩ := hb0.at_
      have HE := Lib.hid hq0
      have HQ2 := Lib.hid hb0
      clear hq0 hb0
      go_upto_region 7 with fail
      clear f0 f1 f2 f3 f4 f5 d0 d1 d2 d3 d4 d5
      rw [← hq] at HQ2 ⊢
      clear hq
      generalize w4.alloc (actCs 0 0 0 0 0 (.slice none 0 0)) = w2 at *
      have hx2 : w2.cell? ⟨b, o, none⟩ = some (strV x) := (HX4.out.trans HE.out).cell HXX.out
      clear hlo hx

      by_cases g0 : x = [112, 105, 99, 107]
      · by_cases hl : ns.length = 2
        · skip
          have e0 : ((⟨x.toArray⟩ : ByteArray) == ⟨#[112, 105, 99, 107]⟩) = true := bs_t g0
          have e1 : ((⟨x.toArray⟩ : ByteArray) == ⟨#[115, 116, 111, 112]⟩) = false := bs_f (y := [115, 116, 111, 112]) (by rw [g0]; decide)
          have m1 : ¬ (⟨x.toArray⟩ : ByteArray) = ⟨#[115, 116, 111, 112]⟩ := bs_n (y := [115, 116, 111, 112]) (by rw [g0]; decide)
          have e2 : ((⟨x.toArray⟩ : ByteArray) == ⟨#[99, 114, 97, 115, 104]⟩) = false := bs_f (y := [99, 114, 97, 115, 104]) (by rw [g0]; decide)
          have m2 : ¬ (⟨x.toArray⟩ : ByteArray) = ⟨#[99, 114, 97, 115, 104]⟩ := bs_n (y := [99, 114, 97, 115, 104]) (by rw [g0]; decide)
          have e3 : ((⟨x.toArray⟩ : ByteArray) == ⟨#[102, 108, 105, 112]⟩) = false := bs_f (y := [102, 108, 105, 112]) (by rw [g0]; decide)
          have m3 : ¬ (⟨x.toArray⟩ : ByteArray) = ⟨#[102, 108, 105, 112]⟩ := bs_n (y := [102, 108, 105, 112]) (by rw [g0]; decide)
          have e4 : ((⟨x.toArray⟩ : ByteArray) == ⟨#[114, 117, 110]⟩) = false := bs_f (y := [114, 117, 110]) (by rw [g0]; decide)
          have m4 : ¬ (⟨x.toArray⟩ : ByteArray) = ⟨#[114, 117, 110]⟩ := bs_n (y := [114, 117, 110]) (by rw [g0]; decide)
          rw [hl] at HO ⊢
          obtain ⟨n0, n1, rfl⟩ : ∃ n0 n1 : Int, ns = [n0, n1] := by match ns, hl with | [n0, n1], _ => exact ⟨n0, n1, rfl⟩
          obtain ⟨bn, on, rfl, i0⟩ := reI1 (RE.ext HO.out.re HE.out) (k := 0) (by simp)
          have i0 : w2.cell? ⟨bn, on, none⟩ = some (.int .i64 n0) := i0
          have i1 : w2.cell? ⟨bn, on + 1, none⟩ = some (.int .i64 n1) := by
            obtain ⟨bm, om, hm, hc⟩ := reI1 (RE.ext HO.out.re HE.out) (k := 1) (by simp)
            cases hm
            exact hc
          have HM := Lib.hid (show mkAct x [n0, n1] = ((1, n0, n1, 0, 0), []) from by rw [g0]; simp [mkAct])
          have HXD := Lib.hid (show Ext w2 w2.drew from (Ext.refl w2).drew)
          have HQ3 := Lib.hid (HQ2.out.ext HXD.out)
          have HE3 := Lib.hid (HE.out.trans HXD.out)
          have f0 : (w2.drew).frozen? ⟨q, 0, none⟩ = false := HQ3.out.b.frozen 0
          have f1 : (w2.drew).frozen? ⟨q, 1, none⟩ = false := HQ3.out.b.frozen 1
          have f2 : (w2.drew).frozen? ⟨q, 2, none⟩ = false := HQ3.out.b.frozen 2
          have f3 : (w2.drew).frozen? ⟨q, 3, none⟩ = false := HQ3.out.b.frozen 3
          have f4 : (w2.drew).frozen? ⟨q, 4, none⟩ = false := HQ3.out.b.frozen 4
          have f5 : (w2.drew).frozen? ⟨q, 5, none⟩ = false := HQ3.out.b.frozen 5
          obtain ⟨d0, d1, d2, d3, d4, d5⟩ := HQ3.out.at_
          have HF3 := Lib.hid (HQ3.out.fill (.int .i64 1) (.int .i64 n0) (.int .i64 n1) (.int .i64 0) (.int .i64 0) (.slice none 0 0))
          have HE5 := Lib.hid (HE3.out.andQ (extQ6 (ExtQ.refl (fun k => k = q) (w2.drew)) (q := q) rfl (.int .i64 1) (.int .i64 n0) (.int .i64 n1) (.int .i64 0) (.int .i64 0) (.slice none 0 0)) (fun k hk => by have h1 : k = q := hk; have := HQ.out; omega))
          go_wp2
          go_still_tail 7, (by kernel_rfl)
          change wpList _ _ _ _ _ w2.drew
          generalize w2.drew = w8 at *
          go_upto_region 17 with fail
          clear f0 f1 f2 f3 f4 f5 d0 d1 d2 d3 d4 d5 e0 e1 e2 e3 e4 m1 m2 m3 m4 hx2 i0 i1
          generalize ((((((w8).setCell ⟨q, 0, none⟩ (.int .i64 1)).setCell ⟨q, 1, none⟩ (.int .i64 n0)).setCell ⟨q, 2, none⟩ (.int .i64 n1)).setCell ⟨q, 3, none⟩ (.int .i64 0)).setCell ⟨q, 4, none⟩ (.int .i64 0)).setCell ⟨q, 5, none⟩ (.slice none 0 0) = w5 at *
          have HC2 := Lib.hid (fun w h => actMay_any 1 n0 n1 0 0 (.slice none 0 0) ([] : List Int) w h)
          have HU5 := Lib.hid (show RE w5 (.slice none 0 0) ([] : List Int) from RE.nilS _)
          obtain ⟨y0, y1, y2, y3, y4, y5⟩ := HF3.out.at_
          go_wp2_with fail
          refine (HC2.out _ HU5.out).mono ?_
          rintro e w6 ⟨rfl, he6⟩
          have HX4 := Lib.hid ((HX4.out.trans HE5.out).trans he6)
          have HB4 := Lib.hid ((HB4.out.ext HE5.out).ext he6)
          have HF6 := Lib.hid (HF3.out.ext he6)
          clear he6 y0 y1 y2 y3 y4 y5
          cases hok : actOk ((1, n0, n1, 0, 0), []) with
          | false =>
            have HA := Lib.hid (HN.out (by rw [HM.out]; exact hok))
            clear hok
            have f0 : (w6).frozen? ⟨p, 0, none⟩ = false := HB4.out.b.frozen 0
            have f1 : (w6).frozen? ⟨p, 1, none⟩ = false := HB4.out.b.frozen 1
            have f2 : (w6).frozen? ⟨p, 2, none⟩ = false := HB4.out.b.frozen 2
            have f3 : (w6).frozen? ⟨p, 3, none⟩ = false := HB4.out.b.frozen 3
            have f4 : (w6).frozen? ⟨p, 4, none⟩ = false := HB4.out.b.frozen 4
            have f5 : (w6).frozen? ⟨p, 5, none⟩ = false := HB4.out.b.frozen 5
            have HF := Lib.hid (HB4.out.fill (.int .i64 0) (.int .i64 0) (.int .i64 0) (.int .i64 0) (.int .i64 0) (.slice none 0 0))
            have hq9 := extQ6 (ExtQ.refl (fun k => k = p) w6) (q := p) rfl (.int .i64 0) (.int .i64 0) (.int .i64 0) (.int .i64 0) (.int .i64 0) (.slice none 0 0)
            have HXF := Lib.hid (HX4.out.andQ hq9 (fun k hk => by have := HP.out; omega))
            have HOF := Lib.hid (show OE 3 w.heap.size (((((((w6).setCell ⟨p, 0, none⟩ (.int .i64 0)).setCell ⟨p, 1, none⟩ (.int .i64 0)).setCell ⟨p, 2, none⟩ (.int .i64 0)).setCell ⟨p, 3, none⟩ (.int .i64 0)).setCell ⟨p, 4, none⟩ (.int .i64 0)).setCell ⟨p, 5, none⟩ (.slice none 0 0)) (.slice none 0 0) ([] : List Int) from OE.nilS _ _ _)
            clear hq9
            obtain ⟨d0, d1, d2, d3, d4, d5⟩ := HB4.out.at_
            go_wp2
            generalize ((((((w6).setCell ⟨p, 0, none⟩ (.int .i64 0)).setCell ⟨p, 1, none⟩ (.int .i64 0)).setCell ⟨p, 2, none⟩ (.int .i64 0)).setCell ⟨p, 3, none⟩ (.int .i64 0)).setCell ⟨p, 4, none⟩ (.int .i64 0)).setCell ⟨p, 5, none⟩ (.slice none 0 0) = wz at *
            obtain ⟨y0, y1, y2, y3, y4, y5⟩ := HF.out.at_
            exact bodyPost_ret (v := .tuple #[.agg #[.int .i64 0, .int .i64 0, .int .i64 0, .int .i64 0, .int .i64 0, .slice none 0 0], .bool false]) (by simp [results, Tryz.results6, go_sem, y0, y1, y2, y3, y4, y5]) rfl ⟨zAct, _, by rw [HA.out]; rfl, by rw [HA.out]; rfl, HOF.out, HXF.out⟩
          | true =>
            have HA := Lib.hid (show actL (x :: rest) = some ((1, n0, n1, 0, 0), []) from by rw [HYS.out (by rw [HM.out]; exact hok), HM.out])
            obtain ⟨y0, y1, y2, y3, y4, y5⟩ := HF6.out.at_
            clear hok
            have f0 : (w6).frozen? ⟨p, 0, none⟩ = false := HB4.out.b.frozen 0
            have f1 : (w6).frozen? ⟨p, 1, none⟩ = false := HB4.out.b.frozen 1
            have f2 : (w6).frozen? ⟨p, 2, none⟩ = false := HB4.out.b.frozen 2
            have f3 : (w6).frozen? ⟨p, 3, none⟩ = false := HB4.out.b.frozen 3
            have f4 : (w6).frozen? ⟨p, 4, none⟩ = false := HB4.out.b.frozen 4
            have f5 : (w6).frozen? ⟨p, 5, none⟩ = false := HB4.out.b.frozen 5
            have HF := Lib.hid (HB4.out.fill (.int .i64 1) (.int .i64 n0) (.int .i64 n1) (.int .i64 0) (.int .i64 0) (.slice none 0 0))
            have hq9 := extQ6 (ExtQ.refl (fun k => k = p) w6) (q := p) rfl (.int .i64 1) (.int .i64 n0) (.int .i64 n1) (.int .i64 0) (.int .i64 0) (.slice none 0 0)
            have HXF := Lib.hid (HX4.out.andQ hq9 (fun k hk => by have := HP.out; omega))
            have HOF := Lib.hid (show OE 3 w.heap.size (((((((w6).setCell ⟨p, 0, none⟩ (.int .i64 1)).setCell ⟨p, 1, none⟩ (.int .i64 n0)).setCell ⟨p, 2, none⟩ (.int .i64 n1)).setCell ⟨p, 3, none⟩ (.int .i64 0)).setCell ⟨p, 4, none⟩ (.int .i64 0)).setCell ⟨p, 5, none⟩ (.slice none 0 0)) (.slice none 0 0) ([] : List Int) from OE.nilS _ _ _)
            clear hq9
            obtain ⟨d0, d1, d2, d3, d4, d5⟩ := HB4.out.at_
            go_wp2
            clear y0 y1 y2 y3 y4 y5
            generalize ((((((w6).setCell ⟨p, 0, none⟩ (.int .i64 1)).setCell ⟨p, 1, none⟩ (.int .i64 n0)).setCell ⟨p, 2, none⟩ (.int .i64 n1)).setCell ⟨p, 3, none⟩ (.int .i64 0)).setCell ⟨p, 4, none⟩ (.int .i64 0)).setCell ⟨p, 5, none⟩ (.slice none 0 0) = wz at *
            obtain ⟨y0, y1, y2, y3, y4, y5⟩ := HF.out.at_
            exact bodyPost_ret (v := .tuple #[.agg #[.int .i64 1, .int .i64 n0, .int .i64 n1, .int .i64 0, .int .i64 0, .slice none 0 0], .bool true]) (by simp [results, Tryz.results6, go_sem, y0, y1, y2, y3, y4, y5]) rfl ⟨((1, n0, n1, 0, 0), []), _, by rw [HA.out]; rfl, by rw [HA.out]; rfl, HOF.out, HXF.out⟩
        · skip
          have e0 : ((⟨x.toArray⟩ : ByteArray) == ⟨#[112, 105, 99, 107]⟩) = true := bs_t g0
          have e1 : ((⟨x.toArray⟩ : ByteArray) == ⟨#[115, 116, 111, 112]⟩) = false := bs_f (y := [115, 116, 111, 112]) (by rw [g0]; decide)
          have m1 : ¬ (⟨x.toArray⟩ : ByteArray) = ⟨#[115, 116, 111, 112]⟩ := bs_n (y := [115, 116, 111, 112]) (by rw [g0]; decide)
          have e2 : ((⟨x.toArray⟩ : ByteArray) == ⟨#[99, 114, 97, 115, 104]⟩) = false := bs_f (y := [99, 114, 97, 115, 104]) (by rw [g0]; decide)
          have m2 : ¬ (⟨x.toArray⟩ : ByteArray) = ⟨#[99, 114, 97, 115, 104]⟩ := bs_n (y := [99, 114, 97, 115, 104]) (by rw [g0]; decide)
          have e3 : ((⟨x.toArray⟩ : ByteArray) == ⟨#[102, 108, 105, 112]⟩) = false := bs_f (y := [102, 108, 105, 112]) (by rw [g0]; decide)
          have m3 : ¬ (⟨x.toArray⟩ : ByteArray) = ⟨#[102, 108, 105, 112]⟩ := bs_n (y := [102, 108, 105, 112]) (by rw [g0]; decide)
          have e4 : ((⟨x.toArray⟩ : ByteArray) == ⟨#[114, 117, 110]⟩) = false := bs_f (y := [114, 117, 110]) (by rw [g0]; decide)
          have m4 : ¬ (⟨x.toArray⟩ : ByteArray) = ⟨#[114, 117, 110]⟩ := bs_n (y := [114, 117, 110]) (by rw [g0]; decide)
          have hl2 : ¬ (ns.length : Int) = 2 := by omega
          have HM := Lib.hid (show mkAct x ns = ((0, 0, 0, 0, 0), []) from by rw [g0]; simp [mkAct, hl])
          have HE5 := HE
          have HF3 := HQ2
          go_upto_region 17 with fail
          generalize w2 = w5 at *
          clear e0 e1 e2 e3 e4 m1 m2 m3 m4 hx2
          have HC2 := Lib.hid (fun w h => actMay_any 0 0 0 0 0 (.slice none 0 0) ([] : List Int) w h)
          have HU5 := Lib.hid (show RE w5 (.slice none 0 0) ([] : List Int) from RE.nilS _)
          obtain ⟨y0, y1, y2, y3, y4, y5⟩ := HF3.out.at_
          go_wp2_with fail
          refine (HC2.out _ HU5.out).mono ?_
          rintro e w6 ⟨rfl, he6⟩
          have HX4 := Lib.hid ((HX4.out.trans HE5.out).trans he6)
          have HB4 := Lib.hid ((HB4.out.ext HE5.out).ext he6)
          have HF6 := Lib.hid (HF3.out.ext he6)
          clear he6 y0 y1 y2 y3 y4 y5
          cases hok : actOk ((0, 0, 0, 0, 0), []) with
          | false =>
            have HA := Lib.hid (HN.out (by rw [HM.out]; exact hok))
            clear hok
            have f0 : (w6).frozen? ⟨p, 0, none⟩ = false := HB4.out.b.frozen 0
            have f1 : (w6).frozen? ⟨p, 1, none⟩ = false := HB4.out.b.frozen 1
            have f2 : (w6).frozen? ⟨p, 2, none⟩ = false := HB4.out.b.frozen 2
            have f3 : (w6).frozen? ⟨p, 3, none⟩ = false := HB4.out.b.frozen 3
            have f4 : (w6).frozen? ⟨p, 4, none⟩ = false := HB4.out.b.frozen 4
            have f5 : (w6).frozen? ⟨p, 5, none⟩ = false := HB4.out.b.frozen 5
            have HF := Lib.hid (HB4.out.fill (.int .i64 0) (.int .i64 0) (.int .i64 0) (.int .i64 0) (.int .i64 0) (.slice none 0 0))
            have hq9 := extQ6 (ExtQ.refl (fun k => k = p) w6) (q := p) rfl (.int .i64 0) (.int .i64 0) (.int .i64 0) (.int .i64 0) (.int .i64 0) (.slice none 0 0)
            have HXF := Lib.hid (HX4.out.andQ hq9 (fun k hk => by have := HP.out; omega))
            have HOF := Lib.hid (show OE 3 w.heap.size (((((((w6).setCell ⟨p, 0, none⟩ (.int .i64 0)).setCell ⟨p, 1, none⟩ (.int .i64 0)).setCell ⟨p, 2, none⟩ (.int .i64 0)).setCell ⟨p, 3, none⟩ (.int .i64 0)).setCell ⟨p, 4, none⟩ (.int .i64 0)).setCell ⟨p, 5, none⟩ (.slice none 0 0)) (.slice none 0 0) ([] : List Int) from OE.nilS _ _ _)
            clear hq9
            obtain ⟨d0, d1, d2, d3, d4, d5⟩ := HB4.out.at_
            go_wp2
            generalize ((((((w6).setCell ⟨p, 0, none⟩ (.int .i64 0)).setCell ⟨p, 1, none⟩ (.int .i64 0)).setCell ⟨p, 2, none⟩ (.int .i64 0)).setCell ⟨p, 3, none⟩ (.int .i64 0)).setCell ⟨p, 4, none⟩ (.int .i64 0)).setCell ⟨p, 5, none⟩ (.slice none 0 0) = wz at *
            obtain ⟨y0, y1, y2, y3, y4, y5⟩ := HF.out.at_
            exact bodyPost_ret (v := .tuple #[.agg #[.int .i64 0, .int .i64 0, .int .i64 0, .int .i64 0, .int .i64 0, .slice none 0 0], .bool false]) (by simp [results, Tryz.results6, go_sem, y0, y1, y2, y3, y4, y5]) rfl ⟨zAct, _, by rw [HA.out]; rfl, by rw [HA.out]; rfl, HOF.out, HXF.out⟩
          | true =>
            have HA := Lib.hid (show actL (x :: rest) = some ((0, 0, 0, 0, 0), []) from by rw [HYS.out (by rw [HM.out]; exact hok), HM.out])
            obtain ⟨y0, y1, y2, y3, y4, y5⟩ := HF6.out.at_
            clear hok
            have f0 : (w6).frozen? ⟨p, 0, none⟩ = false := HB4.out.b.frozen 0
            have f1 : (w6).frozen? ⟨p, 1, none⟩ = false := HB4.out.b.frozen 1
            have f2 : (w6).frozen? ⟨p, 2, none⟩ = false := HB4.out.b.frozen 2
            have f3 : (w6).frozen? ⟨p, 3, none⟩ = false := HB4.out.b.frozen 3
            have f4 : (w6).frozen? ⟨p, 4, none⟩ = false := HB4.out.b.frozen 4
            have f5 : (w6).frozen? ⟨p, 5, none⟩ = false := HB4.out.b.frozen 5
            have HF := Lib.hid (HB4.out.fill (.int .i64 0) (.int .i64 0) (.int .i64 0) (.int .i64 0) (.int .i64 0) (.slice none 0 0))
            have hq9 := extQ6 (ExtQ.refl (fun k => k = p) w6) (q := p) rfl (.int .i64 0) (.int .i64 0) (.int .i64 0) (.int .i64 0) (.int .i64 0) (.slice none 0 0)
            have HXF := Lib.hid (HX4.out.andQ hq9 (fun k hk => by have := HP.out; omega))
            have HOF := Lib.hid (show OE 3 w.heap.size (((((((w6).setCell ⟨p, 0, none⟩ (.int .i64 0)).setCell ⟨p, 1, none⟩ (.int .i64 0)).setCell ⟨p, 2, none⟩ (.int .i64 0)).setCell ⟨p, 3, none⟩ (.int .i64 0)).setCell ⟨p, 4, none⟩ (.int .i64 0)).setCell ⟨p, 5, none⟩ (.slice none 0 0)) (.slice none 0 0) ([] : List Int) from OE.nilS _ _ _)
            clear hq9
            obtain ⟨d0, d1, d2, d3, d4, d5⟩ := HB4.out.at_
            go_wp2
            clear y0 y1 y2 y3 y4 y5
            generalize ((((((w6).setCell ⟨p, 0, none⟩ (.int .i64 0)).setCell ⟨p, 1, none⟩ (.int .i64 0)).setCell ⟨p, 2, none⟩ (.int .i64 0)).setCell ⟨p, 3, none⟩ (.int .i64 0)).setCell ⟨p, 4, none⟩ (.int .i64 0)).setCell ⟨p, 5, none⟩ (.slice none 0 0) = wz at *
            obtain ⟨y0, y1, y2, y3, y4, y5⟩ := HF.out.at_
            exact bodyPost_ret (v := .tuple #[.agg #[.int .i64 0, .int .i64 0, .int .i64 0, .int .i64 0, .int .i64 0, .slice none 0 0], .bool true]) (by simp [results, Tryz.results6, go_sem, y0, y1, y2, y3, y4, y5]) rfl ⟨((0, 0, 0, 0, 0), []), _, by rw [HA.out]; rfl, by rw [HA.out]; rfl, HOF.out, HXF.out⟩
      by_cases g1 : x = [115, 116, 111, 112]
      · by_cases hl : ns.length = 1
        · skip
          have e0 : ((⟨x.toArray⟩ : ByteArray) == ⟨#[112, 105, 99, 107]⟩) = false := bs_f (y := [112, 105, 99, 107]) (by rw [g1]; decide)
          have m0 : ¬ (⟨x.toArray⟩ : ByteArray) = ⟨#[112, 105, 99, 107]⟩ := bs_n (y := [112, 105, 99, 107]) (by rw [g1]; decide)
          have e1 : ((⟨x.toArray⟩ : ByteArray) == ⟨#[115, 116, 111, 112]⟩) = true := bs_t g1
          have e2 : ((⟨x.toArray⟩ : ByteArray) == ⟨#[99, 114, 97, 115, 104]⟩) = false := bs_f (y := [99, 114, 97, 115, 104]) (by rw [g1]; decide)
          have m2 : ¬ (⟨x.toArray⟩ : ByteArray) = ⟨#[99, 114, 97, 115, 104]⟩ := bs_n (y := [99, 114, 97, 115, 104]) (by rw [g1]; decide)
          have e3 : ((⟨x.toArray⟩ : ByteArray) == ⟨#[102, 108, 105, 112]⟩) = false := bs_f (y := [102, 108, 105, 112]) (by rw [g1]; decide)
          have m3 : ¬ (⟨x.toArray⟩ : ByteArray) = ⟨#[102, 108, 105, 112]⟩ := bs_n (y := [102, 108, 105, 112]) (by rw [g1]; decide)
          have e4 : ((⟨x.toArray⟩ : ByteArray) == ⟨#[114, 117, 110]⟩) = false := bs_f (y := [114, 117, 110]) (by rw [g1]; decide)
          have m4 : ¬ (⟨x.toArray⟩ : ByteArray) = ⟨#[114, 117, 110]⟩ := bs_n (y := [114, 117, 110]) (by rw [g1]; decide)
          rw [hl] at HO ⊢
          obtain ⟨n0, rfl⟩ : ∃ n0 : Int, ns = [n0] := by match ns, hl with | [n0], _ => exact ⟨n0, rfl⟩
          obtain ⟨bn, on, rfl, i0⟩ := reI1 (RE.ext HO.out.re HE.out) (k := 0) (by simp)
          have i0 : w2.cell? ⟨bn, on, none⟩ = some (.int .i64 n0) := i0
          have HM := Lib.hid (show mkAct x [n0] = ((2, n0, 0, 0, 0), []) from by rw [g1]; simp [mkAct])
          have HXD := Lib.hid (show Ext w2 w2 from Ext.refl w2)
          have HQ3 := Lib.hid (HQ2.out.ext HXD.out)
          have HE3 := Lib.hid (HE.out.trans HXD.out)
          have f0 : (w2).frozen? ⟨q, 0, none⟩ = false := HQ3.out.b.frozen 0
          have f1 : (w2).frozen? ⟨q, 1, none⟩ = false := HQ3.out.b.frozen 1
          have f2 : (w2).frozen? ⟨q, 2, none⟩ = false := HQ3.out.b.frozen 2
          have f3 : (w2).frozen? ⟨q, 3, none⟩ = false := HQ3.out.b.frozen 3
          have f4 : (w2).frozen? ⟨q, 4, none⟩ = false := HQ3.out.b.frozen 4
          have f5 : (w2).frozen? ⟨q, 5, none⟩ = false := HQ3.out.b.frozen 5
          obtain ⟨d0, d1, d2, d3, d4, d5⟩ := HQ3.out.at_
          have HF3 := Lib.hid (HQ3.out.fill (.int .i64 2) (.int .i64 n0) (.int .i64 0) (.int .i64 0) (.int .i64 0) (.slice none 0 0))
          have HE5 := Lib.hid (HE3.out.andQ (extQ6 (ExtQ.refl (fun k => k = q) (w2)) (q := q) rfl (.int .i64 2) (.int .i64 n0) (.int .i64 0) (.int .i64 0) (.int .i64 0) (.slice none 0 0)) (fun k hk => by have h1 : k = q := hk; have := HQ.out; omega))
          go_upto_region 17 with fail
          clear f0 f1 f2 f3 f4 f5 d0 d1 d2 d3 d4 d5 e0 e1 e2 e3 e4 m0 m2 m3 m4 hx2 i0
          generalize ((((((w2).setCell ⟨q, 0, none⟩ (.int .i64 2)).setCell ⟨q, 1, none⟩ (.int .i64 n0)).setCell ⟨q, 2, none⟩ (.int .i64 0)).setCell ⟨q, 3, none⟩ (.int .i64 0)).setCell ⟨q, 4, none⟩ (.int .i64 0)).setCell ⟨q, 5, none⟩ (.slice none 0 0) = w5 at *
          have HC2 := Lib.hid (fun w h => actMay_any 2 n0 0 0 0 (.slice none 0 0) ([] : List Int) w h)
          have HU5 := Lib.hid (show RE w5 (.slice none 0 0) ([] : List Int) from RE.nilS _)
          obtain ⟨y0, y1, y2, y3, y4, y5⟩ := HF3.out.at_
          go_wp2_with fail
          refine (HC2.out _ HU5.out).mono ?_
          rintro e w6 ⟨rfl, he6⟩
          have HX4 := Lib.hid ((HX4.out.trans HE5.out).trans he6)
          have HB4 := Lib.hid ((HB4.out.ext HE5.out).ext he6)
          have HF6 := Lib.hid (HF3.out.ext he6)
          clear he6 y0 y1 y2 y3 y4 y5
          cases hok : actOk ((2, n0, 0, 0, 0), []) with
          | false =>
            have HA := Lib.hid (HN.out (by rw [HM.out]; exact hok))
            clear hok
            have f0 : (w6).frozen? ⟨p, 0, none⟩ = false := HB4.out.b.frozen 0
            have f1 : (w6).frozen? ⟨p, 1, none⟩ = false := HB4.out.b.frozen 1
            have f2 : (w6).frozen? ⟨p, 2, none⟩ = false := HB4.out.b.frozen 2
            have f3 : (w6).frozen? ⟨p, 3, none⟩ = false := HB4.out.b.frozen 3
            have f4 : (w6).frozen? ⟨p, 4, none⟩ = false := HB4.out.b.frozen 4
            have f5 : (w6).frozen? ⟨p, 5, none⟩ = false := HB4.out.b.frozen 5
            have HF := Lib.hid (HB4.out.fill (.int .i64 0) (.int .i64 0) (.int .i64 0) (.int .i64 0) (.int .i64 0) (.slice none 0 0))
            have hq9 := extQ6 (ExtQ.refl (fun k => k = p) w6) (q := p) rfl (.int .i64 0) (.int .i64 0) (.int .i64 0) (.int .i64 0) (.int .i64 0) (.slice none 0 0)
            have HXF := Lib.hid (HX4.out.andQ hq9 (fun k hk => by have := HP.out; omega))
            have HOF := Lib.hid (show OE 3 w.heap.size (((((((w6).setCell ⟨p, 0, none⟩ (.int .i64 0)).setCell ⟨p, 1, none⟩ (.int .i64 0)).setCell ⟨p, 2, none⟩ (.int .i64 0)).setCell ⟨p, 3, none⟩ (.int .i64 0)).setCell ⟨p, 4, none⟩ (.int .i64 0)).setCell ⟨p, 5, none⟩ (.slice none 0 0)) (.slice none 0 0) ([] : List Int) from OE.nilS _ _ _)
            clear hq9
            obtain ⟨d0, d1, d2, d3, d4, d5⟩ := HB4.out.at_
            go_wp2
            generalize ((((((w6).setCell ⟨p, 0, none⟩ (.int .i64 0)).setCell ⟨p, 1, none⟩ (.int .i64 0)).setCell ⟨p, 2, none⟩ (.int .i64 0)).setCell ⟨p, 3, none⟩ (.int .i64 0)).setCell ⟨p, 4, none⟩ (.int .i64 0)).setCell ⟨p, 5, none⟩ (.slice none 0 0) = wz at *
            obtain ⟨y0, y1, y2, y3, y4, y5⟩ := HF.out.at_
            exact bodyPost_ret (v := .tuple #[.agg #[.int .i64 0, .int .i64 0, .int .i64 0, .int .i64 0, .int .i64 0, .slice none 0 0], .bool false]) (by simp [results, Tryz.results6, go_sem, y0, y1, y2, y3, y4, y5]) rfl ⟨zAct, _, by rw [HA.out]; rfl, by rw [HA.out]; rfl, HOF.out, HXF.out⟩
          | true =>
            have HA := Lib.hid (show actL (x :: rest) = some ((2, n0, 0, 0, 0), []) from by rw [HYS.out (by rw [HM.out]; exact hok), HM.out])
            obtain ⟨y0, y1, y2, y3, y4, y5⟩ := HF6.out.at_
            clear hok
            have f0 : (w6).frozen? ⟨p, 0, none⟩ = false := HB4.out.b.frozen 0
            have f1 : (w6).frozen? ⟨p, 1, none⟩ = false := HB4.out.b.frozen 1
            have f2 : (w6).frozen? ⟨p, 2, none⟩ = false := HB4.out.b.frozen 2
            have f3 : (w6).frozen? ⟨p, 3, none⟩ = false := HB4.out.b.frozen 3
            have f4 : (w6).frozen? ⟨p, 4, none⟩ = false := HB4.out.b.frozen 4
            have f5 : (w6).frozen? ⟨p, 5, none⟩ = false := HB4.out.b.frozen 5
            have HF := Lib.hid (HB4.out.fill (.int .i64 2) (.int .i64 n0) (.int .i64 0) (.int .i64 0) (.int .i64 0) (.slice none 0 0))
            have hq9 := extQ6 (ExtQ.refl (fun k => k = p) w6) (q := p) rfl (.int .i64 2) (.int .i64 n0) (.int .i64 0) (.int .i64 0) (.int .i64 0) (.slice none 0 0)
            have HXF := Lib.hid (HX4.out.andQ hq9 (fun k hk => by have := HP.out; omega))
            have HOF := Lib.hid (show OE 3 w.heap.size (((((((w6).setCell ⟨p, 0, none⟩ (.int .i64 2)).setCell ⟨p, 1, none⟩ (.int .i64 n0)).setCell ⟨p, 2, none⟩ (.int .i64 0)).setCell ⟨p, 3, none⟩ (.int .i64 0)).setCell ⟨p, 4, none⟩ (.int .i64 0)).setCell ⟨p, 5, none⟩ (.slice none 0 0)) (.slice none 0 0) ([] : List Int) from OE.nilS _ _ _)
            clear hq9
            obtain ⟨d0, d1, d2, d3, d4, d5⟩ := HB4.out.at_
            go_wp2
            clear y0 y1 y2 y3 y4 y5
            generalize ((((((w6).setCell ⟨p, 0, none⟩ (.int .i64 2)).setCell ⟨p, 1, none⟩ (.int .i64 n0)).setCell ⟨p, 2, none⟩ (.int .i64 0)).setCell ⟨p, 3, none⟩ (.int .i64 0)).setCell ⟨p, 4, none⟩ (.int .i64 0)).setCell ⟨p, 5, none⟩ (.slice none 0 0) = wz at *
            obtain ⟨y0, y1, y2, y3, y4, y5⟩ := HF.out.at_
            exact bodyPost_ret (v := .tuple #[.agg #[.int .i64 2, .int .i64 n0, .int .i64 0, .int .i64 0, .int .i64 0, .slice none 0 0], .bool true]) (by simp [results, Tryz.results6, go_sem, y0, y1, y2, y3, y4, y5]) rfl ⟨((2, n0, 0, 0, 0), []), _, by rw [HA.out]; rfl, by rw [HA.out]; rfl, HOF.out, HXF.out⟩
        · skip
          have e0 : ((⟨x.toArray⟩ : ByteArray) == ⟨#[112, 105, 99, 107]⟩) = false := bs_f (y := [112, 105, 99, 107]) (by rw [g1]; decide)
          have m0 : ¬ (⟨x.toArray⟩ : ByteArray) = ⟨#[112, 105, 99, 107]⟩ := bs_n (y := [112, 105, 99, 107]) (by rw [g1]; decide)
          have e1 : ((⟨x.toArray⟩ : ByteArray) == ⟨#[115, 116, 111, 112]⟩) = true := bs_t g1
          have e2 : ((⟨x.toArray⟩ : ByteArray) == ⟨#[99, 114, 97, 115, 104]⟩) = false := bs_f (y := [99, 114, 97, 115, 104]) (by rw [g1]; decide)
          have m2 : ¬ (⟨x.toArray⟩ : ByteArray) = ⟨#[99, 114, 97, 115, 104]⟩ := bs_n (y := [99, 114, 97, 115, 104]) (by rw [g1]; decide)
          have e3 : ((⟨x.toArray⟩ : ByteArray) == ⟨#[102, 108, 105, 112]⟩) = false := bs_f (y := [102, 108, 105, 112]) (by rw [g1]; decide)
          have m3 : ¬ (⟨x.toArray⟩ : ByteArray) = ⟨#[102, 108, 105, 112]⟩ := bs_n (y := [102, 108, 105, 112]) (by rw [g1]; decide)
          have e4 : ((⟨x.toArray⟩ : ByteArray) == ⟨#[114, 117, 110]⟩) = false := bs_f (y := [114, 117, 110]) (by rw [g1]; decide)
          have m4 : ¬ (⟨x.toArray⟩ : ByteArray) = ⟨#[114, 117, 110]⟩ := bs_n (y := [114, 117, 110]) (by rw [g1]; decide)
          have hl2 : ¬ (ns.length : Int) = 1 := by omega
          have HM := Lib.hid (show mkAct x ns = ((0, 0, 0, 0, 0), []) from by rw [g1]; simp [mkAct, hl])
          have HE5 := HE
          have HF3 := HQ2
          go_upto_region 17 with fail
          generalize w2 = w5 at *
          clear e0 e1 e2 e3 e4 m0 m2 m3 m4 hx2
          have HC2 := Lib.hid (fun w h => actMay_any 0 0 0 0 0 (.slice none 0 0) ([] : List Int) w h)
          have HU5 := Lib.hid (show RE w5 (.slice none 0 0) ([] : List Int) from RE.nilS _)
          obtain ⟨y0, y1, y2, y3, y4, y5⟩ := HF3.out.at_
          go_wp2_with fail
          refine (HC2.out _ HU5.out).mono ?_
          rintro e w6 ⟨rfl, he6⟩
          have HX4 := Lib.hid ((HX4.out.trans HE5.out).trans he6)
          have HB4 := Lib.hid ((HB4.out.ext HE5.out).ext he6)
          have HF6 := Lib.hid (HF3.out.ext he6)
          clear he6 y0 y1 y2 y3 y4 y5
          cases hok : actOk ((0, 0, 0, 0, 0), []) with
          | false =>
            have HA := Lib.hid (HN.out (by rw [HM.out]; exact hok))
            clear hok
            have f0 : (w6).frozen? ⟨p, 0, none⟩ = false := HB4.out.b.frozen 0
            have f1 : (w6).frozen? ⟨p, 1, none⟩ = false := HB4.out.b.frozen 1
            have f2 : (w6).frozen? ⟨p, 2, none⟩ = false := HB4.out.b.frozen 2
            have f3 : (w6).frozen? ⟨p, 3, none⟩ = false := HB4.out.b.frozen 3
            have f4 : (w6).frozen? ⟨p, 4, none⟩ = false := HB4.out.b.frozen 4
            have f5 : (w6).frozen? ⟨p, 5, none⟩ = false := HB4.out.b.frozen 5
            have HF := Lib.hid (HB4.out.fill (.int .i64 0) (.int .i64 0) (.int .i64 0) (.int .i64 0) (.int .i64 0) (.slice none 0 0))
            have hq9 := extQ6 (ExtQ.refl (fun k => k = p) w6) (q := p) rfl (.int .i64 0) (.int .i64 0) (.int .i64 0) (.int .i64 0) (.int .i64 0) (.slice none 0 0)
            have HXF := Lib.hid (HX4.out.andQ hq9 (fun k hk => by have := HP.out; omega))
            have HOF := Lib.hid (show OE 3 w.heap.size (((((((w6).setCell ⟨p, 0, none⟩ (.int .i64 0)).setCell ⟨p, 1, none⟩ (.int .i64 0)).setCell ⟨p, 2, none⟩ (.int .i64 0)).setCell ⟨p, 3, none⟩ (.int .i64 0)).setCell ⟨p, 4, none⟩ (.int .i64 0)).setCell ⟨p, 5, none⟩ (.slice none 0 0)) (.slice none 0 0) ([] : List Int) from OE.nilS _ _ _)
            clear hq9
            obtain ⟨d0, d1, d2, d3, d4, d5⟩ := HB4.out.at_
            go_wp2
            generalize ((((((w6).setCell ⟨p, 0, none⟩ (.int .i64 0)).setCell ⟨p, 1, none⟩ (.int .i64 0)).setCell ⟨p, 2, none⟩ (.int .i64 0)).setCell ⟨p, 3, none⟩ (.int .i64 0)).setCell ⟨p, 4, none⟩ (.int .i64 0)).setCell ⟨p, 5, none⟩ (.slice none 0 0) = wz at *
            obtain ⟨y0, y1, y2, y3, y4, y5⟩ := HF.out.at_
            exact bodyPost_ret (v := .tuple #[.agg #[.int .i64 0, .int .i64 0, .int .i64 0, .int .i64 0, .int .i64 0, .slice none 0 0], .bool false]) (by simp [results, Tryz.results6, go_sem, y0, y1, y2, y3, y4, y5]) rfl ⟨zAct, _, by rw [HA.out]; rfl, by rw [HA.out]; rfl, HOF.out, HXF.out⟩
          | true =>
            have HA := Lib.hid (show actL (x :: rest) = some ((0, 0, 0, 0, 0), []) from by rw [HYS.out (by rw [HM.out]; exact hok), HM.out])
            obtain ⟨y0, y1, y2, y3, y4, y5⟩ := HF6.out.at_
            clear hok
            have f0 : (w6).frozen? ⟨p, 0, none⟩ = false := HB4.out.b.frozen 0
            have f1 : (w6).frozen? ⟨p, 1, none⟩ = false := HB4.out.b.frozen 1
            have f2 : (w6).frozen? ⟨p, 2, none⟩ = false := HB4.out.b.frozen 2
            have f3 : (w6).frozen? ⟨p, 3, none⟩ = false := HB4.out.b.frozen 3
            have f4 : (w6).frozen? ⟨p, 4, none⟩ = false := HB4.out.b.frozen 4
            have f5 : (w6).frozen? ⟨p, 5, none⟩ = false := HB4.out.b.frozen 5
            have HF := Lib.hid (HB4.out.fill (.int .i64 0) (.int .i64 0) (.int .i64 0) (.int .i64 0) (.int .i64 0) (.slice none 0 0))
            have hq9 := extQ6 (ExtQ.refl (fun k => k = p) w6) (q := p) rfl (.int .i64 0) (.int .i64 0) (.int .i64 0) (.int .i64 0) (.int .i64 0) (.slice none 0 0)
            have HXF := Lib.hid (HX4.out.andQ hq9 (fun k hk => by have := HP.out; omega))
            have HOF := Lib.hid (show OE 3 w.heap.size (((((((w6).setCell ⟨p, 0, none⟩ (.int .i64 0)).setCell ⟨p, 1, none⟩ (.int .i64 0)).setCell ⟨p, 2, none⟩ (.int .i64 0)).setCell ⟨p, 3, none⟩ (.int .i64 0)).setCell ⟨p, 4, none⟩ (.int .i64 0)).setCell ⟨p, 5, none⟩ (.slice none 0 0)) (.slice none 0 0) ([] : List Int) from OE.nilS _ _ _)
            clear hq9
            obtain ⟨d0, d1, d2, d3, d4, d5⟩ := HB4.out.at_
            go_wp2
            clear y0 y1 y2 y3 y4 y5
            generalize ((((((w6).setCell ⟨p, 0, none⟩ (.int .i64 0)).setCell ⟨p, 1, none⟩ (.int .i64 0)).setCell ⟨p, 2, none⟩ (.int .i64 0)).setCell ⟨p, 3, none⟩ (.int .i64 0)).setCell ⟨p, 4, none⟩ (.int .i64 0)).setCell ⟨p, 5, none⟩ (.slice none 0 0) = wz at *
            obtain ⟨y0, y1, y2, y3, y4, y5⟩ := HF.out.at_
            exact bodyPost_ret (v := .tuple #[.agg #[.int .i64 0, .int .i64 0, .int .i64 0, .int .i64 0, .int .i64 0, .slice none 0 0], .bool true]) (by simp [results, Tryz.results6, go_sem, y0, y1, y2, y3, y4, y5]) rfl ⟨((0, 0, 0, 0, 0), []), _, by rw [HA.out]; rfl, by rw [HA.out]; rfl, HOF.out, HXF.out⟩
      by_cases g2 : x = [99, 114, 97, 115, 104]
      · skip
        have e0 : ((⟨x.toArray⟩ : ByteArray) == ⟨#[112, 105, 99, 107]⟩) = false := bs_f (y := [112, 105, 99, 107]) (by rw [g2]; decide)
        have m0 : ¬ (⟨x.toArray⟩ : ByteArray) = ⟨#[112, 105, 99, 107]⟩ := bs_n (y := [112, 105, 99, 107]) (by rw [g2]; decide)
        have e1 : ((⟨x.toArray⟩ : ByteArray) == ⟨#[115, 116, 111, 112]⟩) = false := bs_f (y := [115, 116, 111, 112]) (by rw [g2]; decide)
        have m1 : ¬ (⟨x.toArray⟩ : ByteArray) = ⟨#[115, 116, 111, 112]⟩ := bs_n (y := [115, 116, 111, 112]) (by rw [g2]; decide)
        have e2 : ((⟨x.toArray⟩ : ByteArray) == ⟨#[99, 114, 97, 115, 104]⟩) = true := bs_t g2
        have e3 : ((⟨x.toArray⟩ : ByteArray) == ⟨#[102, 108, 105, 112]⟩) = false := bs_f (y := [102, 108, 105, 112]) (by rw [g2]; decide)
        have m3 : ¬ (⟨x.toArray⟩ : ByteArray) = ⟨#[102, 108, 105, 112]⟩ := bs_n (y := [102, 108, 105, 112]) (by rw [g2]; decide)
        have e4 : ((⟨x.toArray⟩ : ByteArray) == ⟨#[114, 117, 110]⟩) = false := bs_f (y := [114, 117, 110]) (by rw [g2]; decide)
        have m4 : ¬ (⟨x.toArray⟩ : ByteArray) = ⟨#[114, 117, 110]⟩ := bs_n (y := [114, 117, 110]) (by rw [g2]; decide)
        have HM := Lib.hid (show mkAct x ns = ((3, 0, 0, 0, 0), ns) from by rw [g2]; simp [mkAct])
        have HXD := Lib.hid (show Ext w2 w2 from Ext.refl w2)
        have HQ3 := Lib.hid (HQ2.out.ext HXD.out)
        have HE3 := Lib.hid (HE.out.trans HXD.out)
        have f0 : (w2).frozen? ⟨q, 0, none⟩ = false := HQ3.out.b.frozen 0
        have f1 : (w2).frozen? ⟨q, 1, none⟩ = false := HQ3.out.b.frozen 1
        have f2 : (w2).frozen? ⟨q, 2, none⟩ = false := HQ3.out.b.frozen 2
        have f3 : (w2).frozen? ⟨q, 3, none⟩ = false := HQ3.out.b.frozen 3
        have f4 : (w2).frozen? ⟨q, 4, none⟩ = false := HQ3.out.b.frozen 4
        have f5 : (w2).frozen? ⟨q, 5, none⟩ = false := HQ3.out.b.frozen 5
        obtain ⟨d0, d1, d2, d3, d4, d5⟩ := HQ3.out.at_
        have HF3 := Lib.hid (HQ3.out.fill (.int .i64 3) (.int .i64 0) (.int .i64 0) (.int .i64 0) (.int .i64 0) (.slice AN ns.length cN))
        have HE5 := Lib.hid (HE3.out.andQ (extQ6 (ExtQ.refl (fun k => k = q) (w2)) (q := q) rfl (.int .i64 3) (.int .i64 0) (.int .i64 0) (.int .i64 0) (.int .i64 0) (.slice AN ns.length cN)) (fun k hk => by have h1 : k = q := hk; have := HQ.out; omega))
        go_upto_region 17 with fail
        clear f0 f1 f2 f3 f4 f5 d0 d1 d2 d3 d4 d5 e0 e1 e2 e3 e4 m0 m1 m3 m4 hx2
        generalize ((((((w2).setCell ⟨q, 0, none⟩ (.int .i64 3)).setCell ⟨q, 1, none⟩ (.int .i64 0)).setCell ⟨q, 2, none⟩ (.int .i64 0)).setCell ⟨q, 3, none⟩ (.int .i64 0)).setCell ⟨q, 4, none⟩ (.int .i64 0)).setCell ⟨q, 5, none⟩ (.slice AN ns.length cN) = w5 at *
        have HC2 := Lib.hid (fun w h => actMay_any 3 0 0 0 0 (.slice AN ns.length cN) ns w h)
        have HU5 := Lib.hid (show RE w5 (.slice AN ns.length cN) ns from RE.ext HO.out.re HE5.out)
        obtain ⟨y0, y1, y2, y3, y4, y5⟩ := HF3.out.at_
        go_wp2_with fail
        refine (HC2.out _ HU5.out).mono ?_
        rintro e w6 ⟨rfl, he6⟩
        have HX4 := Lib.hid ((HX4.out.trans HE5.out).trans he6)
        have HB4 := Lib.hid ((HB4.out.ext HE5.out).ext he6)
        have HF6 := Lib.hid (HF3.out.ext he6)
        have HO6 := Lib.hid (OE.ext HO.out (HE5.out.trans he6))
        clear he6 y0 y1 y2 y3 y4 y5
        cases hok : actOk ((3, 0, 0, 0, 0), ns) with
        | false =>
          have HA := Lib.hid (HN.out (by rw [HM.out]; exact hok))
          clear hok
          have f0 : (w6).frozen? ⟨p, 0, none⟩ = false := HB4.out.b.frozen 0
          have f1 : (w6).frozen? ⟨p, 1, none⟩ = false := HB4.out.b.frozen 1
          have f2 : (w6).frozen? ⟨p, 2, none⟩ = false := HB4.out.b.frozen 2
          have f3 : (w6).frozen? ⟨p, 3, none⟩ = false := HB4.out.b.frozen 3
          have f4 : (w6).frozen? ⟨p, 4, none⟩ = false := HB4.out.b.frozen 4
          have f5 : (w6).frozen? ⟨p, 5, none⟩ = false := HB4.out.b.frozen 5
          have HF := Lib.hid (HB4.out.fill (.int .i64 0) (.int .i64 0) (.int .i64 0) (.int .i64 0) (.int .i64 0) (.slice none 0 0))
          have hq9 := extQ6 (ExtQ.refl (fun k => k = p) w6) (q := p) rfl (.int .i64 0) (.int .i64 0) (.int .i64 0) (.int .i64 0) (.int .i64 0) (.slice none 0 0)
          have HXF := Lib.hid (HX4.out.andQ hq9 (fun k hk => by have := HP.out; omega))
          have HOF := Lib.hid (show OE 3 w.heap.size (((((((w6).setCell ⟨p, 0, none⟩ (.int .i64 0)).setCell ⟨p, 1, none⟩ (.int .i64 0)).setCell ⟨p, 2, none⟩ (.int .i64 0)).setCell ⟨p, 3, none⟩ (.int .i64 0)).setCell ⟨p, 4, none⟩ (.int .i64 0)).setCell ⟨p, 5, none⟩ (.slice none 0 0)) (.slice none 0 0) ([] : List Int) from OE.nilS _ _ _)
          clear hq9
          obtain ⟨d0, d1, d2, d3, d4, d5⟩ := HB4.out.at_
          go_wp2
          generalize ((((((w6).setCell ⟨p, 0, none⟩ (.int .i64 0)).setCell ⟨p, 1, none⟩ (.int .i64 0)).setCell ⟨p, 2, none⟩ (.int .i64 0)).setCell ⟨p, 3, none⟩ (.int .i64 0)).setCell ⟨p, 4, none⟩ (.int .i64 0)).setCell ⟨p, 5, none⟩ (.slice none 0 0) = wz at *
          obtain ⟨y0, y1, y2, y3, y4, y5⟩ := HF.out.at_
          exact bodyPost_ret (v := .tuple #[.agg #[.int .i64 0, .int .i64 0, .int .i64 0, .int .i64 0, .int .i64 0, .slice none 0 0], .bool false]) (by simp [results, Tryz.results6, go_sem, y0, y1, y2, y3, y4, y5]) rfl ⟨zAct, _, by rw [HA.out]; rfl, by rw [HA.out]; rfl, HOF.out, HXF.out⟩
        | true =>
          have HA := Lib.hid (show actL (x :: rest) = some ((3, 0, 0, 0, 0), ns) from by rw [HYS.out (by rw [HM.out]; exact hok), HM.out])
          obtain ⟨y0, y1, y2, y3, y4, y5⟩ := HF6.out.at_
          clear hok
          have f0 : (w6).frozen? ⟨p, 0, none⟩ = false := HB4.out.b.frozen 0
          have f1 : (w6).frozen? ⟨p, 1, none⟩ = false := HB4.out.b.frozen 1
          have f2 : (w6).frozen? ⟨p, 2, none⟩ = false := HB4.out.b.frozen 2
          have f3 : (w6).frozen? ⟨p, 3, none⟩ = false := HB4.out.b.frozen 3
          have f4 : (w6).frozen? ⟨p, 4, none⟩ = false := HB4.out.b.frozen 4
          have f5 : (w6).frozen? ⟨p, 5, none⟩ = false := HB4.out.b.frozen 5
          have HF := Lib.hid (HB4.out.fill (.int .i64 3) (.int .i64 0) (.int .i64 0) (.int .i64 0) (.int .i64 0) (.slice AN ns.length cN))
          have hq9 := extQ6 (ExtQ.refl (fun k => k = p) w6) (q := p) rfl (.int .i64 3) (.int .i64 0) (.int .i64 0) (.int .i64 0) (.int .i64 0) (.slice AN ns.length cN)
          have HXF := Lib.hid (HX4.out.andQ hq9 (fun k hk => by have := HP.out; omega))
          have HOF := Lib.hid ((OE.extQ' HO6.out (extQ6 (ExtQ.refl (fun k => k = p) w6) (q := p) rfl (.int .i64 3) (.int .i64 0) (.int .i64 0) (.int .i64 0) (.int .i64 0) (.slice AN ns.length cN)) (fun k hk e => by have h1 := (HO6.out.lt hk).1; have h2 := HPL.out; have e : k = p := e; omega)).low HWL.out)
          clear hq9
          obtain ⟨d0, d1, d2, d3, d4, d5⟩ := HB4.out.at_
          go_wp2
          clear y0 y1 y2 y3 y4 y5
          generalize ((((((w6).setCell ⟨p, 0, none⟩ (.int .i64 3)).setCell ⟨p, 1, none⟩ (.int .i64 0)).setCell ⟨p, 2, none⟩ (.int .i64 0)).setCell ⟨p, 3, none⟩ (.int .i64 0)).setCell ⟨p, 4, none⟩ (.int .i64 0)).setCell ⟨p, 5, none⟩ (.slice AN ns.length cN) = wz at *
          obtain ⟨y0, y1, y2, y3, y4, y5⟩ := HF.out.at_
          exact bodyPost_ret (v := .tuple #[.agg #[.int .i64 3, .int .i64 0, .int .i64 0, .int .i64 0, .int .i64 0, .slice AN ns.length cN], .bool true]) (by simp [results, Tryz.results6, go_sem, y0, y1, y2, y3, y4, y5]) rfl ⟨((3, 0, 0, 0, 0), ns), _, by rw [HA.out]; rfl, by rw [HA.out]; rfl, HOF.out, HXF.out⟩
      by_cases g3 : x = [102, 108, 105, 112]
      · by_cases hl : ns.length = 4
        · skip
          have e0 : ((⟨x.toArray⟩ : ByteArray) == ⟨#[112, 105, 99, 107]⟩) = false := bs_f (y := [112, 105, 99, 107]) (by rw [g3]; decide)
          have m0 : ¬ (⟨x.toArray⟩ : ByteArray) = ⟨#[112, 105, 99, 107]⟩ := bs_n (y := [112, 105, 99, 107]) (by rw [g3]; decide)
          have e1 : ((⟨x.toArray⟩ : ByteArray) == ⟨#[115, 116, 111, 112]⟩) = false := bs_f (y := [115, 116, 111, 112]) (by rw [g3]; decide)
          have m1 : ¬ (⟨x.toArray⟩ : ByteArray) = ⟨#[115, 116, 111, 112]⟩ := bs_n (y := [115, 116, 111, 112]) (by rw [g3]; decide)
          have e2 : ((⟨x.toArray⟩ : ByteArray) == ⟨#[99, 114, 97, 115, 104]⟩) = false := bs_f (y := [99, 114, 97, 115, 104]) (by rw [g3]; decide)
          have m2 : ¬ (⟨x.toArray⟩ : ByteArray) = ⟨#[99, 114, 97, 115, 104]⟩ := bs_n (y := [99, 114, 97, 115, 104]) (by rw [g3]; decide)
          have e3 : ((⟨x.toArray⟩ : ByteArray) == ⟨#[102, 108, 105, 112]⟩) = true := bs_t g3
          have e4 : ((⟨x.toArray⟩ : ByteArray) == ⟨#[114, 117, 110]⟩) = false := bs_f (y := [114, 117, 110]) (by rw [g3]; decide)
          have m4 : ¬ (⟨x.toArray⟩ : ByteArray) = ⟨#[114, 117, 110]⟩ := bs_n (y := [114, 117, 110]) (by rw [g3]; decide)
          rw [hl] at HO ⊢
          obtain ⟨n0, n1, n2, n3, rfl⟩ : ∃ n0 n1 n2 n3 : Int, ns = [n0, n1, n2, n3] := by match ns, hl with | [n0, n1, n2, n3], _ => exact ⟨n0, n1, n2, n3, rfl⟩
          obtain ⟨bn, on, rfl, i0⟩ := reI1 (RE.ext HO.out.re HE.out) (k := 0) (by simp)
          have i0 : w2.cell? ⟨bn, on, none⟩ = some (.int .i64 n0) := i0
          have i1 : w2.cell? ⟨bn, on + 1, none⟩ = some (.int .i64 n1) := by
            obtain ⟨bm, om, hm, hc⟩ := reI1 (RE.ext HO.out.re HE.out) (k := 1) (by simp)
            cases hm
            exact hc
          have i2 : w2.cell? ⟨bn, on + 2, none⟩ = some (.int .i64 n2) := by
            obtain ⟨bm, om, hm, hc⟩ := reI1 (RE.ext HO.out.re HE.out) (k := 2) (by simp)
            cases hm
            exact hc
          have i3 : w2.cell? ⟨bn, on + 3, none⟩ = some (.int .i64 n3) := by
            obtain ⟨bm, om, hm, hc⟩ := reI1 (RE.ext HO.out.re HE.out) (k := 3) (by simp)
            cases hm
            exact hc
          have HM := Lib.hid (show mkAct x [n0, n1, n2, n3] = ((4, n1, n0, n2, n3), []) from by rw [g3]; simp [mkAct])
          have HXD := Lib.hid (show Ext w2 w2.drew from (Ext.refl w2).drew)
          have HQ3 := Lib.hid (HQ2.out.ext HXD.out)
          have HE3 := Lib.hid (HE.out.trans HXD.out)
          have f0 : (w2.drew).frozen? ⟨q, 0, none⟩ = false := HQ3.out.b.frozen 0
          have f1 : (w2.drew).frozen? ⟨q, 1, none⟩ = false := HQ3.out.b.frozen 1
          have f2 : (w2.drew).frozen? ⟨q, 2, none⟩ = false := HQ3.out.b.frozen 2
          have f3 : (w2.drew).frozen? ⟨q, 3, none⟩ = false := HQ3.out.b.frozen 3
          have f4 : (w2.drew).frozen? ⟨q, 4, none⟩ = false := HQ3.out.b.frozen 4
          have f5 : (w2.drew).frozen? ⟨q, 5, none⟩ = false := HQ3.out.b.frozen 5
          obtain ⟨d0, d1, d2, d3, d4, d5⟩ := HQ3.out.at_
          have HF3 := Lib.hid (HQ3.out.fill (.int .i64 4) (.int .i64 n1) (.int .i64 n0) (.int .i64 n2) (.int .i64 n3) (.slice none 0 0))
          have HE5 := Lib.hid (HE3.out.andQ (extQ6 (ExtQ.refl (fun k => k = q) (w2.drew)) (q := q) rfl (.int .i64 4) (.int .i64 n1) (.int .i64 n0) (.int .i64 n2) (.int .i64 n3) (.slice none 0 0)) (fun k hk => by have h1 : k = q := hk; have := HQ.out; omega))
          go_wp2
          go_still_tail 13, (by kernel_rfl)
          change wpList _ _ _ _ _ w2.drew
          generalize w2.drew = w8 at *
          go_upto_region 17 with fail
          clear f0 f1 f2 f3 f4 f5 d0 d1 d2 d3 d4 d5 e0 e1 e2 e3 e4 m0 m1 m2 m4 hx2 i0 i1 i2 i3
          generalize ((((((w8).setCell ⟨q, 0, none⟩ (.int .i64 4)).setCell ⟨q, 1, none⟩ (.int .i64 n1)).setCell ⟨q, 2, none⟩ (.int .i64 n0)).setCell ⟨q, 3, none⟩ (.int .i64 n2)).setCell ⟨q, 4, none⟩ (.int .i64 n3)).setCell ⟨q, 5, none⟩ (.slice none 0 0) = w5 at *
          have HC2 := Lib.hid (fun w h => actMay_any 4 n1 n0 n2 n3 (.slice none 0 0) ([] : List Int) w h)
          have HU5 := Lib.hid (show RE w5 (.slice none 0 0) ([] : List Int) from RE.nilS _)
          obtain ⟨y0, y1, y2, y3, y4, y5⟩ := HF3.out.at_
          go_wp2_with fail
          refine (HC2.out _ HU5.out).mono ?_
          rintro e w6 ⟨rfl, he6⟩
          have HX4 := Lib.hid ((HX4.out.trans HE5.out).trans he6)
          have HB4 := Lib.hid ((HB4.out.ext HE5.out).ext he6)
          have HF6 := Lib.hid (HF3.out.ext he6)
          clear he6 y0 y1 y2 y3 y4 y5
          cases hok : actOk ((4, n1, n0, n2, n3), []) with
          | false =>
            have HA := Lib.hid (HN.out (by rw [HM.out]; exact hok))
            clear hok
            have f0 : (w6).frozen? ⟨p, 0, none⟩ = false := HB4.out.b.frozen 0
            have f1 : (w6).frozen? ⟨p, 1, none⟩ = false := HB4.out.b.frozen 1
            have f2 : (w6).frozen? ⟨p, 2, none⟩ = false := HB4.out.b.frozen 2
            have f3 : (w6).frozen? ⟨p, 3, none⟩ = false := HB4.out.b.frozen 3
            have f4 : (w6).frozen? ⟨p, 4, none⟩ = false := HB4.out.b.frozen 4
            have f5 : (w6).frozen? ⟨p, 5, none⟩ = false := HB4.out.b.frozen 5
            have HF := Lib.hid (HB4.out.fill (.int .i64 0) (.int .i64 0) (.int .i64 0) (.int .i64 0) (.int .i64 0) (.slice none 0 0))
            have hq9 := extQ6 (ExtQ.refl (fun k => k = p) w6) (q := p) rfl (.int .i64 0) (.int .i64 0) (.int .i64 0) (.int .i64 0) (.int .i64 0) (.slice none 0 0)
            have HXF := Lib.hid (HX4.out.andQ hq9 (fun k hk => by have := HP.out; omega))
            have HOF := Lib.hid (show OE 3 w.heap.size (((((((w6).setCell ⟨p, 0, none⟩ (.int .i64 0)).setCell ⟨p, 1, none⟩ (.int .i64 0)).setCell ⟨p, 2, none⟩ (.int .i64 0)).setCell ⟨p, 3, none⟩ (.int .i64 0)).setCell ⟨p, 4, none⟩ (.int .i64 0)).setCell ⟨p, 5, none⟩ (.slice none 0 0)) (.slice none 0 0) ([] : List Int) from OE.nilS _ _ _)
            clear hq9
            obtain ⟨d0, d1, d2, d3, d4, d5⟩ := HB4.out.at_
            go_wp2
            generalize ((((((w6).setCell ⟨p, 0, none⟩ (.int .i64 0)).setCell ⟨p, 1, none⟩ (.int .i64 0)).setCell ⟨p, 2, none⟩ (.int .i64 0)).setCell ⟨p, 3, none⟩ (.int .i64 0)).setCell ⟨p, 4, none⟩ (.int .i64 0)).setCell ⟨p, 5, none⟩ (.slice none 0 0) = wz at *
            obtain ⟨y0, y1, y2, y3, y4, y5⟩ := HF.out.at_
            exact bodyPost_ret (v := .tuple #[.agg #[.int .i64 0, .int .i64 0, .int .i64 0, .int .i64 0, .int .i64 0, .slice none 0 0], .bool false]) (by simp [results, Tryz.results6, go_sem, y0, y1, y2, y3, y4, y5]) rfl ⟨zAct, _, by rw [HA.out]; rfl, by rw [HA.out]; rfl, HOF.out, HXF.out⟩
          | true =>
            have HA := Lib.hid (show actL (x :: rest) = some ((4, n1, n0, n2, n3), []) from by rw [HYS.out (by rw [HM.out]; exact hok), HM.out])
            obtain ⟨y0, y1, y2, y3, y4, y5⟩ := HF6.out.at_
            clear hok
            have f0 : (w6).frozen? ⟨p, 0, none⟩ = false := HB4.out.b.frozen 0
            have f1 : (w6).frozen? ⟨p, 1, none⟩ = false := HB4.out.b.frozen 1
            have f2 : (w6).frozen? ⟨p, 2, none⟩ = false := HB4.out.b.frozen 2
            have f3 : (w6).frozen? ⟨p, 3, none⟩ = false := HB4.out.b.frozen 3
            have f4 : (w6).frozen? ⟨p, 4, none⟩ = false := HB4.out.b.frozen 4
            have f5 : (w6).frozen? ⟨p, 5, none⟩ = false := HB4.out.b.frozen 5
            have HF := Lib.hid (HB4.out.fill (.int .i64 4) (.int .i64 n1) (.int .i64 n0) (.int .i64 n2) (.int .i64 n3) (.slice none 0 0))
            have hq9 := extQ6 (ExtQ.refl (fun k => k = p) w6) (q := p) rfl (.int .i64 4) (.int .i64 n1) (.int .i64 n0) (.int .i64 n2) (.int .i64 n3) (.slice none 0 0)
            have HXF := Lib.hid (HX4.out.andQ hq9 (fun k hk => by have := HP.out; omega))
            have HOF := Lib.hid (show OE 3 w.heap.size (((((((w6).setCell ⟨p, 0, none⟩ (.int .i64 4)).setCell ⟨p, 1, none⟩ (.int .i64 n1)).setCell ⟨p, 2, none⟩ (.int .i64 n0)).setCell ⟨p, 3, none⟩ (.int .i64 n2)).setCell ⟨p, 4, none⟩ (.int .i64 n3)).setCell ⟨p, 5, none⟩ (.slice none 0 0)) (.slice none 0 0) ([] : List Int) from OE.nilS _ _ _)
            clear hq9
            obtain ⟨d0, d1, d2, d3, d4, d5⟩ := HB4.out.at_
            go_wp2
            clear y0 y1 y2 y3 y4 y5
            generalize ((((((w6).setCell ⟨p, 0, none⟩ (.int .i64 4)).setCell ⟨p, 1, none⟩ (.int .i64 n1)).setCell ⟨p, 2, none⟩ (.int .i64 n0)).setCell ⟨p, 3, none⟩ (.int .i64 n2)).setCell ⟨p, 4, none⟩ (.int .i64 n3)).setCell ⟨p, 5, none⟩ (.slice none 0 0) = wz at *
            obtain ⟨y0, y1, y2, y3, y4, y5⟩ := HF.out.at_
            exact bodyPost_ret (v := .tuple #[.agg #[.int .i64 4, .int .i64 n1, .int .i64 n0, .int .i64 n2, .int .i64 n3, .slice none 0 0], .bool true]) (by simp [results, Tryz.results6, go_sem, y0, y1, y2, y3, y4, y5]) rfl ⟨((4, n1, n0, n2, n3), []), _, by rw [HA.out]; rfl, by rw [HA.out]; rfl, HOF.out, HXF.out⟩
        · skip
          have e0 : ((⟨x.toArray⟩ : ByteArray) == ⟨#[112, 105, 99, 107]⟩) = false := bs_f (y := [112, 105, 99, 107]) (by rw [g3]; decide)
          have m0 : ¬ (⟨x.toArray⟩ : ByteArray) = ⟨#[112, 105, 99, 107]⟩ := bs_n (y := [112, 105, 99, 107]) (by rw [g3]; decide)
          have e1 : ((⟨x.toArray⟩ : ByteArray) == ⟨#[115, 116, 111, 112]⟩) = false := bs_f (y := [115, 116, 111, 112]) (by rw [g3]; decide)
          have m1 : ¬ (⟨x.toArray⟩ : ByteArray) = ⟨#[115, 116, 111, 112]⟩ := bs_n (y := [115, 116, 111, 112]) (by rw [g3]; decide)
          have e2 : ((⟨x.toArray⟩ : ByteArray) == ⟨#[99, 114, 97, 115, 104]⟩) = false := bs_f (y := [99, 114, 97, 115, 104]) (by rw [g3]; decide)
          have m2 : ¬ (⟨x.toArray⟩ : ByteArray) = ⟨#[99, 114, 97, 115, 104]⟩ := bs_n (y := [99, 114, 97, 115, 104]) (by rw [g3]; decide)
          have e3 : ((⟨x.toArray⟩ : ByteArray) == ⟨#[102, 108, 105, 112]⟩) = true := bs_t g3
          have e4 : ((⟨x.toArray⟩ : ByteArray) == ⟨#[114, 117, 110]⟩) = false := bs_f (y := [114, 117, 110]) (by rw [g3]; decide)
          have m4 : ¬ (⟨x.toArray⟩ : ByteArray) = ⟨#[114, 117, 110]⟩ := bs_n (y := [114, 117, 110]) (by rw [g3]; decide)
          have hl2 : ¬ (ns.length : Int) = 4 := by omega
          have HM := Lib.hid (show mkAct x ns = ((0, 0, 0, 0, 0), []) from by rw [g3]; simp [mkAct, hl])
          have HE5 := HE
          have HF3 := HQ2
          go_upto_region 17 with fail
          generalize w2 = w5 at *
          clear e0 e1 e2 e3 e4 m0 m1 m2 m4 hx2
          have HC2 := Lib.hid (fun w h => actMay_any 0 0 0 0 0 (.slice none 0 0) ([] : List Int) w h)
          have HU5 := Lib.hid (show RE w5 (.slice none 0 0) ([] : List Int) from RE.nilS _)
          obtain ⟨y0, y1, y2, y3, y4, y5⟩ := HF3.out.at_
          go_wp2_with fail
          refine (HC2.out _ HU5.out).mono ?_
          rintro e w6 ⟨rfl, he6⟩
          have HX4 := Lib.hid ((HX4.out.trans HE5.out).trans he6)
          have HB4 := Lib.hid ((HB4.out.ext HE5.out).ext he6)
          have HF6 := Lib.hid (HF3.out.ext he6)
          clear he6 y0 y1 y2 y3 y4 y5
          cases hok : actOk ((0, 0, 0, 0, 0), []) with
          | false =>
            have HA := Lib.hid (HN.out (by rw [HM.out]; exact hok))
            clear hok
            have f0 : (w6).frozen? ⟨p, 0, none⟩ = false := HB4.out.b.frozen 0
            have f1 : (w6).frozen? ⟨p, 1, none⟩ = false := HB4.out.b.frozen 1
            have f2 : (w6).frozen? ⟨p, 2, none⟩ = false := HB4.out.b.frozen 2
            have f3 : (w6).frozen? ⟨p, 3, none⟩ = false := HB4.out.b.frozen 3
            have f4 : (w6).frozen? ⟨p, 4, none⟩ = false := HB4.out.b.frozen 4
            have f5 : (w6).frozen? ⟨p, 5, none⟩ = false := HB4.out.b.frozen 5
            have HF := Lib.hid (HB4.out.fill (.int .i64 0) (.int .i64 0) (.int .i64 0) (.int .i64 0) (.int .i64 0) (.slice none 0 0))
            have hq9 := extQ6 (ExtQ.refl (fun k => k = p) w6) (q := p) rfl (.int .i64 0) (.int .i64 0) (.int .i64 0) (.int .i64 0) (.int .i64 0) (.slice none 0 0)
            have HXF := Lib.hid (HX4.out.andQ hq9 (fun k hk => by have := HP.out; omega))
            have HOF := Lib.hid (show OE 3 w.heap.size (((((((w6).setCell ⟨p, 0, none⟩ (.int .i64 0)).setCell ⟨p, 1, none⟩ (.int .i64 0)).setCell ⟨p, 2, none⟩ (.int .i64 0)).setCell ⟨p, 3, none⟩ (.int .i64 0)).setCell ⟨p, 4, none⟩ (.int .i64 0)).setCell ⟨p, 5, none⟩ (.slice none 0 0)) (.slice none 0 0) ([] : List Int) from OE.nilS _ _ _)
            clear hq9
            obtain ⟨d0, d1, d2, d3, d4, d5⟩ := HB4.out.at_
            go_wp2
            generalize ((((((w6).setCell ⟨p, 0, none⟩ (.int .i64 0)).setCell ⟨p, 1, none⟩ (.int .i64 0)).setCell ⟨p, 2, none⟩ (.int .i64 0)).setCell ⟨p, 3, none⟩ (.int .i64 0)).setCell ⟨p, 4, none⟩ (.int .i64 0)).setCell ⟨p, 5, none⟩ (.slice none 0 0) = wz at *
            obtain ⟨y0, y1, y2, y3, y4, y5⟩ := HF.out.at_
            exact bodyPost_ret (v := .tuple #[.agg #[.int .i64 0, .int .i64 0, .int .i64 0, .int .i64 0, .int .i64 0, .slice none 0 0], .bool false]) (by simp [results, Tryz.results6, go_sem, y0, y1, y2, y3, y4, y5]) rfl ⟨zAct, _, by rw [HA.out]; rfl, by rw [HA.out]; rfl, HOF.out, HXF.out⟩
          | true =>
            have HA := Lib.hid (show actL (x :: rest) = some ((0, 0, 0, 0, 0), []) from by rw [HYS.out (by rw [HM.out]; exact hok), HM.out])
            obtain ⟨y0, y1, y2, y3, y4, y5⟩ := HF6.out.at_
            clear hok
            have f0 : (w6).frozen? ⟨p, 0, none⟩ = false := HB4.out.b.frozen 0
            have f1 : (w6).frozen? ⟨p, 1, none⟩ = false := HB4.out.b.frozen 1
            have f2 : (w6).frozen? ⟨p, 2, none⟩ = false := HB4.out.b.frozen 2
            have f3 : (w6).frozen? ⟨p, 3, none⟩ = false := HB4.out.b.frozen 3
            have f4 : (w6).frozen? ⟨p, 4, none⟩ = false := HB4.out.b.frozen 4
            have f5 : (w6).frozen? ⟨p, 5, none⟩ = false := HB4.out.b.frozen 5
            have HF := Lib.hid (HB4.out.fill (.int .i64 0) (.int .i64 0) (.int .i64 0) (.int .i64 0) (.int .i64 0) (.slice none 0 0))
            have hq9 := extQ6 (ExtQ.refl (fun k => k = p) w6) (q := p) rfl (.int .i64 0) (.int .i64 0) (.int .i64 0) (.int .i64 0) (.int .i64 0) (.slice none 0 0)
            have HXF := Lib.hid (HX4.out.andQ hq9 (fun k hk => by have := HP.out; omega))
            have HOF := Lib.hid (show OE 3 w.heap.size (((((((w6).setCell ⟨p, 0, none⟩ (.int .i64 0)).setCell ⟨p, 1, none⟩ (.int .i64 0)).setCell ⟨p, 2, none⟩ (.int .i64 0)).setCell ⟨p, 3, none⟩ (.int .i64 0)).setCell ⟨p, 4, none⟩ (.int .i64 0)).setCell ⟨p, 5, none⟩ (.slice none 0 0)) (.slice none 0 0) ([] : List Int) from OE.nilS _ _ _)
            clear hq9
            obtain ⟨d0, d1, d2, d3, d4, d5⟩ := HB4.out.at_
            go_wp2
            clear y0 y1 y2 y3 y4 y5
            generalize ((((((w6).setCell ⟨p, 0, none⟩ (.int .i64 0)).setCell ⟨p, 1, none⟩ (.int .i64 0)).setCell ⟨p, 2, none⟩ (.int .i64 0)).setCell ⟨p, 3, none⟩ (.int .i64 0)).setCell ⟨p, 4, none⟩ (.int .i64 0)).setCell ⟨p, 5, none⟩ (.slice none 0 0) = wz at *
            obtain ⟨y0, y1, y2, y3, y4, y5⟩ := HF.out.at_
            exact bodyPost_ret (v := .tuple #[.agg #[.int .i64 0, .int .i64 0, .int .i64 0, .int .i64 0, .int .i64 0, .slice none 0 0], .bool true]) (by simp [results, Tryz.results6, go_sem, y0, y1, y2, y3, y4, y5]) rfl ⟨((0, 0, 0, 0, 0), []), _, by rw [HA.out]; rfl, by rw [HA.out]; rfl, HOF.out, HXF.out⟩
      by_cases g4 : x = [114, 117, 110]
      · by_cases hl : ns.length = 2
        · skip
          have e0 : ((⟨x.toArray⟩ : ByteArray) == ⟨#[112, 105, 99, 107]⟩) = false := bs_f (y := [112, 105, 99, 107]) (by rw [g4]; decide)
          have m0 : ¬ (⟨x.toArray⟩ : ByteArray) = ⟨#[112, 105, 99, 107]⟩ := bs_n (y := [112, 105, 99, 107]) (by rw [g4]; decide)
          have e1 : ((⟨x.toArray⟩ : ByteArray) == ⟨#[115, 116, 111, 112]⟩) = false := bs_f (y := [115, 116, 111, 112]) (by rw [g4]; decide)
          have m1 : ¬ (⟨x.toArray⟩ : ByteArray) = ⟨#[115, 116, 111, 112]⟩ := bs_n (y := [115, 116, 111, 112]) (by rw [g4]; decide)
          have e2 : ((⟨x.toArray⟩ : ByteArray) == ⟨#[99, 114, 97, 115, 104]⟩) = false := bs_f (y := [99, 114, 97, 115, 104]) (by rw [g4]; decide)
          have m2 : ¬ (⟨x.toArray⟩ : ByteArray) = ⟨#[99, 114, 97, 115, 104]⟩ := bs_n (y := [99, 114, 97, 115, 104]) (by rw [g4]; decide)
          have e3 : ((⟨x.toArray⟩ : ByteArray) == ⟨#[102, 108, 105, 112]⟩) = false := bs_f (y := [102, 108, 105, 112]) (by rw [g4]; decide)
          have m3 : ¬ (⟨x.toArray⟩ : ByteArray) = ⟨#[102, 108, 105, 112]⟩ := bs_n (y := [102, 108, 105, 112]) (by rw [g4]; decide)
          have e4 : ((⟨x.toArray⟩ : ByteArray) == ⟨#[114, 117, 110]⟩) = true := bs_t g4
          rw [hl] at HO ⊢
          obtain ⟨n0, n1, rfl⟩ : ∃ n0 n1 : Int, ns = [n0, n1] := by match ns, hl with | [n0, n1], _ => exact ⟨n0, n1, rfl⟩
          obtain ⟨bn, on, rfl, i0⟩ := reI1 (RE.ext HO.out.re HE.out) (k := 0) (by simp)
          have i0 : w2.cell? ⟨bn, on, none⟩ = some (.int .i64 n0) := i0
          have i1 : w2.cell? ⟨bn, on + 1, none⟩ = some (.int .i64 n1) := by
            obtain ⟨bm, om, hm, hc⟩ := reI1 (RE.ext HO.out.re HE.out) (k := 1) (by simp)
            cases hm
            exact hc
          have HM := Lib.hid (show mkAct x [n0, n1] = ((5, n0, n1, 0, 0), []) from by rw [g4]; simp [mkAct])
          have HXD := Lib.hid (show Ext w2 w2.drew from (Ext.refl w2).drew)
          have HQ3 := Lib.hid (HQ2.out.ext HXD.out)
          have HE3 := Lib.hid (HE.out.trans HXD.out)
          have f0 : (w2.drew).frozen? ⟨q, 0, none⟩ = false := HQ3.out.b.frozen 0
          have f1 : (w2.drew).frozen? ⟨q, 1, none⟩ = false := HQ3.out.b.frozen 1
          have f2 : (w2.drew).frozen? ⟨q, 2, none⟩ = false := HQ3.out.b.frozen 2
          have f3 : (w2.drew).frozen? ⟨q, 3, none⟩ = false := HQ3.out.b.frozen 3
          have f4 : (w2.drew).frozen? ⟨q, 4, none⟩ = false := HQ3.out.b.frozen 4
          have f5 : (w2.drew).frozen? ⟨q, 5, none⟩ = false := HQ3.out.b.frozen 5
          obtain ⟨d0, d1, d2, d3, d4, d5⟩ := HQ3.out.at_
          have HF3 := Lib.hid (HQ3.out.fill (.int .i64 5) (.int .i64 n0) (.int .i64 n1) (.int .i64 0) (.int .i64 0) (.slice none 0 0))
          have HE5 := Lib.hid (HE3.out.andQ (extQ6 (ExtQ.refl (fun k => k = q) (w2.drew)) (q := q) rfl (.int .i64 5) (.int .i64 n0) (.int .i64 n1) (.int .i64 0) (.int .i64 0) (.slice none 0 0)) (fun k hk => by have h1 : k = q := hk; have := HQ.out; omega))
          go_wp2
          go_still_tail 7, (by kernel_rfl)
          change wpList _ _ _ _ _ w2.drew
          generalize w2.drew = w8 at *
          go_upto_region 17 with fail
          clear f0 f1 f2 f3 f4 f5 d0 d1 d2 d3 d4 d5 e0 e1 e2 e3 e4 m0 m1 m2 m3 hx2 i0 i1
          generalize ((((((w8).setCell ⟨q, 0, none⟩ (.int .i64 5)).setCell ⟨q, 1, none⟩ (.int .i64 n0)).setCell ⟨q, 2, none⟩ (.int .i64 n1)).setCell ⟨q, 3, none⟩ (.int .i64 0)).setCell ⟨q, 4, none⟩ (.int .i64 0)).setCell ⟨q, 5, none⟩ (.slice none 0 0) = w5 at *
          have HC2 := Lib.hid (fun w h => actMay_any 5 n0 n1 0 0 (.slice none 0 0) ([] : List Int) w h)
          have HU5 := Lib.hid (show RE w5 (.slice none 0 0) ([] : List Int) from RE.nilS _)
          obtain ⟨y0, y1, y2, y3, y4, y5⟩ := HF3.out.at_
          go_wp2_with fail
          refine (HC2.out _ HU5.out).mono ?_
          rintro e w6 ⟨rfl, he6⟩
          have HX4 := Lib.hid ((HX4.out.trans HE5.out).trans he6)
          have HB4 := Lib.hid ((HB4.out.ext HE5.out).ext he6)
          have HF6 := Lib.hid (HF3.out.ext he6)
          clear he6 y0 y1 y2 y3 y4 y5
          cases hok : actOk ((5, n0, n1, 0, 0), []) with
          | false =>
            have HA := Lib.hid (HN.out (by rw [HM.out]; exact hok))
            clear hok
            have f0 : (w6).frozen? ⟨p, 0, none⟩ = false := HB4.out.b.frozen 0
            have f1 : (w6).frozen? ⟨p, 1, none⟩ = false := HB4.out.b.frozen 1
            have f2 : (w6).frozen? ⟨p, 2, none⟩ = false := HB4.out.b.frozen 2
            have f3 : (w6).frozen? ⟨p, 3, none⟩ = false := HB4.out.b.frozen 3
            have f4 : (w6).frozen? ⟨p, 4, none⟩ = false := HB4.out.b.frozen 4
            have f5 : (w6).frozen? ⟨p, 5, none⟩ = false := HB4.out.b.frozen 5
            have HF := Lib.hid (HB4.out.fill (.int .i64 0) (.int .i64 0) (.int .i64 0) (.int .i64 0) (.int .i64 0) (.slice none 0 0))
            have hq9 := extQ6 (ExtQ.refl (fun k => k = p) w6) (q := p) rfl (.int .i64 0) (.int .i64 0) (.int .i64 0) (.int .i64 0) (.int .i64 0) (.slice none 0 0)
            have HXF := Lib.hid (HX4.out.andQ hq9 (fun k hk => by have := HP.out; omega))
            have HOF := Lib.hid (show OE 3 w.heap.size (((((((w6).setCell ⟨p, 0, none⟩ (.int .i64 0)).setCell ⟨p, 1, none⟩ (.int .i64 0)).setCell ⟨p, 2, none⟩ (.int .i64 0)).setCell ⟨p, 3, none⟩ (.int .i64 0)).setCell ⟨p, 4, none⟩ (.int .i64 0)).setCell ⟨p, 5, none⟩ (.slice none 0 0)) (.slice none 0 0) ([] : List Int) from OE.nilS _ _ _)
            clear hq9
            obtain ⟨d0, d1, d2, d3, d4, d5⟩ := HB4.out.at_
            go_wp2
            generalize ((((((w6).setCell ⟨p, 0, none⟩ (.int .i64 0)).setCell ⟨p, 1, none⟩ (.int .i64 0)).setCell ⟨p, 2, none⟩ (.int .i64 0)).setCell ⟨p, 3, none⟩ (.int .i64 0)).setCell ⟨p, 4, none⟩ (.int .i64 0)).setCell ⟨p, 5, none⟩ (.slice none 0 0) = wz at *
            obtain ⟨y0, y1, y2, y3, y4, y5⟩ := HF.out.at_
            exact bodyPost_ret (v := .tuple #[.agg #[.int .i64 0, .int .i64 0, .int .i64 0, .int .i64 0, .int .i64 0, .slice none 0 0], .bool false]) (by simp [results, Tryz.results6, go_sem, y0, y1, y2, y3, y4, y5]) rfl ⟨zAct, _, by rw [HA.out]; rfl, by rw [HA.out]; rfl, HOF.out, HXF.out⟩
          | true =>
            have HA := Lib.hid (show actL (x :: rest) = some ((5, n0, n1, 0, 0), []) from by rw [HYS.out (by rw [HM.out]; exact hok), HM.out])
            obtain ⟨y0, y1, y2, y3, y4, y5⟩ := HF6.out.at_
            clear hok
            have f0 : (w6).frozen? ⟨p, 0, none⟩ = false := HB4.out.b.frozen 0
            have f1 : (w6).frozen? ⟨p, 1, none⟩ = false := HB4.out.b.frozen 1
            have f2 : (w6).frozen? ⟨p, 2, none⟩ = false := HB4.out.b.frozen 2
            have f3 : (w6).frozen? ⟨p, 3, none⟩ = false := HB4.out.b.frozen 3
            have f4 : (w6).frozen? ⟨p, 4, none⟩ = false := HB4.out.b.frozen 4
            have f5 : (w6).frozen? ⟨p, 5, none⟩ = false := HB4.out.b.frozen 5
            have HF := Lib.hid (HB4.out.fill (.int .i64 5) (.int .i64 n0) (.int .i64 n1) (.int .i64 0) (.int .i64 0) (.slice none 0 0))
            have hq9 := extQ6 (ExtQ.refl (fun k => k = p) w6) (q := p) rfl (.int .i64 5) (.int .i64 n0) (.int .i64 n1) (.int .i64 0) (.int .i64 0) (.slice none 0 0)
            have HXF := Lib.hid (HX4.out.andQ hq9 (fun k hk => by have := HP.out; omega))
            have HOF := Lib.hid (show OE 3 w.heap.size (((((((w6).setCell ⟨p, 0, none⟩ (.int .i64 5)).setCell ⟨p, 1, none⟩ (.int .i64 n0)).setCell ⟨p, 2, none⟩ (.int .i64 n1)).setCell ⟨p, 3, none⟩ (.int .i64 0)).setCell ⟨p, 4, none⟩ (.int .i64 0)).setCell ⟨p, 5, none⟩ (.slice none 0 0)) (.slice none 0 0) ([] : List Int) from OE.nilS _ _ _)
            clear hq9
            obtain ⟨d0, d1, d2, d3, d4, d5⟩ := HB4.out.at_
            go_wp2
            clear y0 y1 y2 y3 y4 y5
            generalize ((((((w6).setCell ⟨p, 0, none⟩ (.int .i64 5)).setCell ⟨p, 1, none⟩ (.int .i64 n0)).setCell ⟨p, 2, none⟩ (.int .i64 n1)).setCell ⟨p, 3, none⟩ (.int .i64 0)).setCell ⟨p, 4, none⟩ (.int .i64 0)).setCell ⟨p, 5, none⟩ (.slice none 0 0) = wz at *
            obtain ⟨y0, y1, y2, y3, y4, y5⟩ := HF.out.at_
            exact bodyPost_ret (v := .tuple #[.agg #[.int .i64 5, .int .i64 n0, .int .i64 n1, .int .i64 0, .int .i64 0, .slice none 0 0], .bool true]) (by simp [results, Tryz.results6, go_sem, y0, y1, y2, y3, y4, y5]) rfl ⟨((5, n0, n1, 0, 0), []), _, by rw [HA.out]; rfl, by rw [HA.out]; rfl, HOF.out, HXF.out⟩
        · skip
          have e0 : ((⟨x.toArray⟩ : ByteArray) == ⟨#[112, 105, 99, 107]⟩) = false := bs_f (y := [112, 105, 99, 107]) (by rw [g4]; decide)
          have m0 : ¬ (⟨x.toArray⟩ : ByteArray) = ⟨#[112, 105, 99, 107]⟩ := bs_n (y := [112, 105, 99, 107]) (by rw [g4]; decide)
          have e1 : ((⟨x.toArray⟩ : ByteArray) == ⟨#[115, 116, 111, 112]⟩) = false := bs_f (y := [115, 116, 111, 112]) (by rw [g4]; decide)
          have m1 : ¬ (⟨x.toArray⟩ : ByteArray) = ⟨#[115, 116, 111, 112]⟩ := bs_n (y := [115, 116, 111, 112]) (by rw [g4]; decide)
          have e2 : ((⟨x.toArray⟩ : ByteArray) == ⟨#[99, 114, 97, 115, 104]⟩) = false := bs_f (y := [99, 114, 97, 115, 104]) (by rw [g4]; decide)
          have m2 : ¬ (⟨x.toArray⟩ : ByteArray) = ⟨#[99, 114, 97, 115, 104]⟩ := bs_n (y := [99, 114, 97, 115, 104]) (by rw [g4]; decide)
          have e3 : ((⟨x.toArray⟩ : ByteArray) == ⟨#[102, 108, 105, 112]⟩) = false := bs_f (y := [102, 108, 105, 112]) (by rw [g4]; decide)
          have m3 : ¬ (⟨x.toArray⟩ : ByteArray) = ⟨#[102, 108, 105, 112]⟩ := bs_n (y := [102, 108, 105, 112]) (by rw [g4]; decide)
          have e4 : ((⟨x.toArray⟩ : ByteArray) == ⟨#[114, 117, 110]⟩) = true := bs_t g4
          have hl2 : ¬ (ns.length : Int) = 2 := by omega
          have HM := Lib.hid (show mkAct x ns = ((0, 0, 0, 0, 0), []) from by rw [g4]; simp [mkAct, hl])
          have HE5 := HE
          have HF3 := HQ2
          go_upto_region 17 with fail
          generalize w2 = w5 at *
          clear e0 e1 e2 e3 e4 m0 m1 m2 m3 hx2
          have HC2 := Lib.hid (fun w h => actMay_any 0 0 0 0 0 (.slice none 0 0) ([] : List Int) w h)
          have HU5 := Lib.hid (show RE w5 (.slice none 0 0) ([] : List Int) from RE.nilS _)
          obtain ⟨y0, y1, y2, y3, y4, y5⟩ := HF3.out.at_
          go_wp2_with fail
          refine (HC2.out _ HU5.out).mono ?_
          rintro e w6 ⟨rfl, he6⟩
          have HX4 := Lib.hid ((HX4.out.trans HE5.out).trans he6)
          have HB4 := Lib.hid ((HB4.out.ext HE5.out).ext he6)
          have HF6 := Lib.hid (HF3.out.ext he6)
          clear he6 y0 y1 y2 y3 y4 y5
          cases hok : actOk ((0, 0, 0, 0, 0), []) with
          | false =>
            have HA := Lib.hid (HN.out (by rw [HM.out]; exact hok))
            clear hok
            have f0 : (w6).frozen? ⟨p, 0, none⟩ = false := HB4.out.b.frozen 0
            have f1 : (w6).frozen? ⟨p, 1, none⟩ = false := HB4.out.b.frozen 1
            have f2 : (w6).frozen? ⟨p, 2, none⟩ = false := HB4.out.b.frozen 2
            have f3 : (w6).frozen? ⟨p, 3, none⟩ = false := HB4.out.b.frozen 3
            have f4 : (w6).frozen? ⟨p, 4, none⟩ = false := HB4.out.b.frozen 4
            have f5 : (w6).frozen? ⟨p, 5, none⟩ = false := HB4.out.b.frozen 5
            have HF := Lib.hid (HB4.out.fill (.int .i64 0) (.int .i64 0) (.int .i64 0) (.int .i64 0) (.int .i64 0) (.slice none 0 0))
            have hq9 := extQ6 (ExtQ.refl (fun k => k = p) w6) (q := p) rfl (.int .i64 0) (.int .i64 0) (.int .i64 0) (.int .i64 0) (.int .i64 0) (.slice none 0 0)
            have HXF := Lib.hid (HX4.out.andQ hq9 (fun k hk => by have := HP.out; omega))
            have HOF := Lib.hid (show OE 3 w.heap.size (((((((w6).setCell ⟨p, 0, none⟩ (.int .i64 0)).setCell ⟨p, 1, none⟩ (.int .i64 0)).setCell ⟨p, 2, none⟩ (.int .i64 0)).setCell ⟨p, 3, none⟩ (.int .i64 0)).setCell ⟨p, 4, none⟩ (.int .i64 0)).setCell ⟨p, 5, none⟩ (.slice none 0 0)) (.slice none 0 0) ([] : List Int) from OE.nilS _ _ _)
            clear hq9
            obtain ⟨d0, d1, d2, d3, d4, d5⟩ := HB4.out.at_
            go_wp2
            generalize ((((((w6).setCell ⟨p, 0, none⟩ (.int .i64 0)).setCell ⟨p, 1, none⟩ (.int .i64 0)).setCell ⟨p, 2, none⟩ (.int .i64 0)).setCell ⟨p, 3, none⟩ (.int .i64 0)).setCell ⟨p, 4, none⟩ (.int .i64 0)).setCell ⟨p, 5, none⟩ (.slice none 0 0) = wz at *
            obtain ⟨y0, y1, y2, y3, y4, y5⟩ := HF.out.at_
            exact bodyPost_ret (v := .tuple #[.agg #[.int .i64 0, .int .i64 0, .int .i64 0, .int .i64 0, .int .i64 0, .slice none 0 0], .bool false]) (by simp [results, Tryz.results6, go_sem, y0, y1, y2, y3, y4, y5]) rfl ⟨zAct, _, by rw [HA.out]; rfl, by rw [HA.out]; rfl, HOF.out, HXF.out⟩
          | true =>
            have HA := Lib.hid (show actL (x :: rest) = some ((0, 0, 0, 0, 0), []) from by rw [HYS.out (by rw [HM.out]; exact hok), HM.out])
            obtain ⟨y0, y1, y2, y3, y4, y5⟩ := HF6.out.at_
            clear hok
            have f0 : (w6).frozen? ⟨p, 0, none⟩ = false := HB4.out.b.frozen 0
            have f1 : (w6).frozen? ⟨p, 1, none⟩ = false := HB4.out.b.frozen 1
            have f2 : (w6).frozen? ⟨p, 2, none⟩ = false := HB4.out.b.frozen 2
            have f3 : (w6).frozen? ⟨p, 3, none⟩ = false := HB4.out.b.frozen 3
            have f4 : (w6).frozen? ⟨p, 4, none⟩ = false := HB4.out.b.frozen 4
            have f5 : (w6).frozen? ⟨p, 5, none⟩ = false := HB4.out.b.frozen 5
            have HF := Lib.hid (HB4.out.fill (.int .i64 0) (.int .i64 0) (.int .i64 0) (.int .i64 0) (.int .i64 0) (.slice none 0 0))
            have hq9 := extQ6 (ExtQ.refl (fun k => k = p) w6) (q := p) rfl (.int .i64 0) (.int .i64 0) (.int .i64 0) (.int .i64 0) (.int .i64 0) (.slice none 0 0)
            have HXF := Lib.hid (HX4.out.andQ hq9 (fun k hk => by have := HP.out; omega))
            have HOF := Lib.hid (show OE 3 w.heap.size (((((((w6).setCell ⟨p, 0, none⟩ (.int .i64 0)).setCell ⟨p, 1, none⟩ (.int .i64 0)).setCell ⟨p, 2, none⟩ (.int .i64 0)).setCell ⟨p, 3, none⟩ (.int .i64 0)).setCell ⟨p, 4, none⟩ (.int .i64 0)).setCell ⟨p, 5, none⟩ (.slice none 0 0)) (.slice none 0 0) ([] : List Int) from OE.nilS _ _ _)
            clear hq9
            obtain ⟨d0, d1, d2, d3, d4, d5⟩ := HB4.out.at_
            go_wp2
            clear y0 y1 y2 y3 y4 y5
            generalize ((((((w6).setCell ⟨p, 0, none⟩ (.int .i64 0)).setCell ⟨p, 1, none⟩ (.int .i64 0)).setCell ⟨p, 2, none⟩ (.int .i64 0)).setCell ⟨p, 3, none⟩ (.int .i64 0)).setCell ⟨p, 4, none⟩ (.int .i64 0)).setCell ⟨p, 5, none⟩ (.slice none 0 0) = wz at *
            obtain ⟨y0, y1, y2, y3, y4, y5⟩ := HF.out.at_
            exact bodyPost_ret (v := .tuple #[.agg #[.int .i64 0, .int .i64 0, .int .i64 0, .int .i64 0, .int .i64 0, .slice none 0 0], .bool true]) (by simp [results, Tryz.results6, go_sem, y0, y1, y2, y3, y4, y5]) rfl ⟨((0, 0, 0, 0, 0), []), _, by rw [HA.out]; rfl, by rw [HA.out]; rfl, HOF.out, HXF.out⟩
      have e0 : ((⟨x.toArray⟩ : ByteArray) == ⟨#[112, 105, 99, 107]⟩) = false := bs_f g0
      have m0 : ¬ (⟨x.toArray⟩ : ByteArray) = ⟨#[112, 105, 99, 107]⟩ := bs_n g0
      have r0 : (x == [112, 105, 99, 107]) = false := by rw [← Bool.not_eq_true]; exact fun h => g0 (eq_of_beq h)
      have e1 : ((⟨x.toArray⟩ : ByteArray) == ⟨#[115, 116, 111, 112]⟩) = false := bs_f g1
      have m1 : ¬ (⟨x.toArray⟩ : ByteArray) = ⟨#[115, 116, 111, 112]⟩ := bs_n g1
      have r1 : (x == [115, 116, 111, 112]) = false := by rw [← Bool.not_eq_true]; exact fun h => g1 (eq_of_beq h)
      have e2 : ((⟨x.toArray⟩ : ByteArray) == ⟨#[99, 114, 97, 115, 104]⟩) = false := bs_f g2
      have m2 : ¬ (⟨x.toArray⟩ : ByteArray) = ⟨#[99, 114, 97, 115, 104]⟩ := bs_n g2
      have r2 : (x == [99, 114, 97, 115, 104]) = false := by rw [← Bool.not_eq_true]; exact fun h => g2 (eq_of_beq h)
      have e3 : ((⟨x.toArray⟩ : ByteArray) == ⟨#[102, 108, 105, 112]⟩) = false := bs_f g3
      have m3 : ¬ (⟨x.toArray⟩ : ByteArray) = ⟨#[102, 108, 105, 112]⟩ := bs_n g3
      have r3 : (x == [102, 108, 105, 112]) = false := by rw [← Bool.not_eq_true]; exact fun h => g3 (eq_of_beq h)
      have e4 : ((⟨x.toArray⟩ : ByteArray) == ⟨#[114, 117, 110]⟩) = false := bs_f g4
      have m4 : ¬ (⟨x.toArray⟩ : ByteArray) = ⟨#[114, 117, 110]⟩ := bs_n g4
      have r4 : (x == [114, 117, 110]) = false := by rw [← Bool.not_eq_true]; exact fun h => g4 (eq_of_beq h)
      have HM := Lib.hid (show mkAct x ns = ((0, 0, 0, 0, 0), []) from by unfold mkAct; rw [if_neg (fun h => g0 h.1), if_neg (fun h => g1 h.1), if_neg g2, if_neg (fun h => g3 h.1), if_neg (fun h => g4 h.1)])
      have HE5 := HE
      have HF3 := HQ2
      go_upto_region 17 with fail
      generalize w2 = w5 at *
      clear e0 e1 e2 e3 e4 m0 m1 m2 m3 m4 hx2 r0 r1 r2 r3 r4
      have HC2 := Lib.hid (fun w h => actMay_any 0 0 0 0 0 (.slice none 0 0) ([] : List Int) w h)
      have HU5 := Lib.hid (show RE w5 (.slice none 0 0) ([] : List Int) from RE.nilS _)
      obtain ⟨y0, y1, y2, y3, y4, y5⟩ := HF3.out.at_
      go_wp2_with fail
      refine (HC2.out _ HU5.out).mono ?_
      rintro e w6 ⟨rfl, he6⟩
      have HX4 := Lib.hid ((HX4.out.trans HE5.out).trans he6)
      have HB4 := Lib.hid ((HB4.out.ext HE5.out).ext he6)
      have HF6 := Lib.hid (HF3.out.ext he6)
      clear he6 y0 y1 y2 y3 y4 y5
      cases hok : actOk ((0, 0, 0, 0, 0), []) with
      | false =>
        have HA := Lib.hid (HN.out (by rw [HM.out]; exact hok))
        clear hok
        have f0 : (w6).frozen? ⟨p, 0, none⟩ = false := HB4.out.b.frozen 0
        have f1 : (w6).frozen? ⟨p, 1, none⟩ = false := HB4.out.b.frozen 1
        have f2 : (w6).frozen? ⟨p, 2, none⟩ = false := HB4.out.b.frozen 2
        have f3 : (w6).frozen? ⟨p, 3, none⟩ = false := HB4.out.b.frozen 3
        have f4 : (w6).frozen? ⟨p, 4, none⟩ = false := HB4.out.b.frozen 4
        have f5 : (w6).frozen? ⟨p, 5, none⟩ = false := HB4.out.b.frozen 5
        have HF := Lib.hid (HB4.out.fill (.int .i64 0) (.int .i64 0) (.int .i64 0) (.int .i64 0) (.int .i64 0) (.slice none 0 0))
        have hq9 := extQ6 (ExtQ.refl (fun k => k = p) w6) (q := p) rfl (.int .i64 0) (.int .i64 0) (.int .i64 0) (.int .i64 0) (.int .i64 0) (.slice none 0 0)
        have HXF := Lib.hid (HX4.out.andQ hq9 (fun k hk => by have := HP.out; omega))
        have HOF := Lib.hid (show OE 3 w.heap.size (((((((w6).setCell ⟨p, 0, none⟩ (.int .i64 0)).setCell ⟨p, 1, none⟩ (.int .i64 0)).setCell ⟨p, 2, none⟩ (.int .i64 0)).setCell ⟨p, 3, none⟩ (.int .i64 0)).setCell ⟨p, 4, none⟩ (.int .i64 0)).setCell ⟨p, 5, none⟩ (.slice none 0 0)) (.slice none 0 0) ([] : List Int) from OE.nilS _ _ _)
        clear hq9
        obtain ⟨d0, d1, d2, d3, d4, d5⟩ := HB4.out.at_
        go_wp2
        generalize ((((((w6).setCell ⟨p, 0, none⟩ (.int .i64 0)).setCell ⟨p, 1, none⟩ (.int .i64 0)).setCell ⟨p, 2, none⟩ (.int .i64 0)).setCell ⟨p, 3, none⟩ (.int .i64 0)).setCell ⟨p, 4, none⟩ (.int .i64 0)).setCell ⟨p, 5, none⟩ (.slice none 0 0) = wz at *
        obtain ⟨y0, y1, y2, y3, y4, y5⟩ := HF.out.at_
        exact bodyPost_ret (v := .tuple #[.agg #[.int .i64 0, .int .i64 0, .int .i64 0, .int .i64 0, .int .i64 0, .slice none 0 0], .bool false]) (by simp [results, Tryz.results6, go_sem, y0, y1, y2, y3, y4, y5]) rfl ⟨zAct, _, by rw [HA.out]; rfl, by rw [HA.out]; rfl, HOF.out, HXF.out⟩
      | true =>
        have HA := Lib.hid (show actL (x :: rest) = some ((0, 0, 0, 0, 0), []) from by rw [HYS.out (by rw [HM.out]; exact hok), HM.out])
        obtain ⟨y0, y1, y2, y3, y4, y5⟩ := HF6.out.at_
        clear hok
        have f0 : (w6).frozen? ⟨p, 0, none⟩ = false := HB4.out.b.frozen 0
        have f1 : (w6).frozen? ⟨p, 1, none⟩ = false := HB4.out.b.frozen 1
        have f2 : (w6).frozen? ⟨p, 2, none⟩ = false := HB4.out.b.frozen 2
        have f3 : (w6).frozen? ⟨p, 3, none⟩ = false := HB4.out.b.frozen 3
        have f4 : (w6).frozen? ⟨p, 4, none⟩ = false := HB4.out.b.frozen 4
        have f5 : (w6).frozen? ⟨p, 5, none⟩ = false := HB4.out.b.frozen 5
        have HF := Lib.hid (HB4.out.fill (.int .i64 0) (.int .i64 0) (.int .i64 0) (.int .i64 0) (.int .i64 0) (.slice none 0 0))
        have hq9 := extQ6 (ExtQ.refl (fun k => k = p) w6) (q := p) rfl (.int .i64 0) (.int .i64 0) (.int .i64 0) (.int .i64 0) (.int .i64 0) (.slice none 0 0)
        have HXF := Lib.hid (HX4.out.andQ hq9 (fun k hk => by have := HP.out; omega))
        have HOF := Lib.hid (show OE 3 w.heap.size (((((((w6).setCell ⟨p, 0, none⟩ (.int .i64 0)).setCell ⟨p, 1, none⟩ (.int .i64 0)).setCell ⟨p, 2, none⟩ (.int .i64 0)).setCell ⟨p, 3, none⟩ (.int .i64 0)).setCell ⟨p, 4, none⟩ (.int .i64 0)).setCell ⟨p, 5, none⟩ (.slice none 0 0)) (.slice none 0 0) ([] : List Int) from OE.nilS _ _ _)
        clear hq9
        obtain ⟨d0, d1, d2, d3, d4, d5⟩ := HB4.out.at_
        go_wp2
        clear y0 y1 y2 y3 y4 y5
        generalize ((((((w6).setCell ⟨p, 0, none⟩ (.int .i64 0)).setCell ⟨p, 1, none⟩ (.int .i64 0)).setCell ⟨p, 2, none⟩ (.int .i64 0)).setCell ⟨p, 3, none⟩ (.int .i64 0)).setCell ⟨p, 4, none⟩ (.int .i64 0)).setCell ⟨p, 5, none⟩ (.slice none 0 0) = wz at *
        obtain ⟨y0, y1, y2, y3, y4, y5⟩ := HF.out.at_
        exact bodyPost_ret (v := .tuple #[.agg #[.int .i64 0, .int .i64 0, .int .i64 0, .int .i64 0, .int .i64 0, .slice none 0 0], .bool true]) (by simp [results, Tryz.results6, go_sem, y0, y1, y2, y3, y4, y5]) rfl ⟨((0, 0, 0, 0, 0), []), _, by rw [HA.out]; rfl, by rw [HA.out]; rfl, HOF.out, HXF.out⟩
end Go.Proofs.YtpmgmiiidfconaaGreatDoor
