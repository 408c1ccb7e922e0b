/-
  PlWays, packed: what the claim needs of them.
-/
import Derived.Test.YtcacicgkebcdkaaPe31
import Derived.Test.YtcacicgkebcdkaaPe32
import Derived.Test.YtcacicgkebcdkaaPe33
import Derived.WideKeyEntry
import Derived.Deep.LoopGhost
set_option linter.unusedSimpArgs false
set_option linter.unusedVariables false
set_option maxRecDepth 100000
namespace Go.Ox.Pl
open Go.Ox.Gr Go.Proofs.Ytcacicgkebcdkaa
theorem arcF_vals {g : G} {p q : P2} {w : Wy} (h : arcF g p q = some w) : (w.2 = 0 ∨ (w.2 = 1 ∧ w.1 = false)) := by
  unfold arcF at h
  split at h
  · injection h with h; subst h; exact .inl rfl
  · split at h
    · cases h
    · split at h
      · injection h with h; subst h; exact .inl rfl
      · split at h
        · injection h with h; subst h; exact .inr ⟨rfl, rfl⟩
        · split at h
          · injection h with h; subst h; exact .inl rfl
          · cases h
theorem asOk (g : G) : AsOk (arcsL g) (gPl g) where
  fr a ha := (mem_arcsL.1 ha).1
  tt a ha := (mem_arcsL.1 ha).2.1
  lo a ha := by have := arcF_vals (mem_arcsL.1 ha).2.2; omega
  hi a ha := by have := arcF_vals (mem_arcsL.1 ha).2.2; omega
  st a ha hs := by
    rcases arcF_vals (mem_arcsL.1 ha).2.2 with h | ⟨_, h⟩
    · exact h
    · rw [h] at hs; cases hs
def wayM (g : G) (p : P2) : Mp := iter (arcsL g) p (2 * (gPl g).length + 1) (M0 p)
theorem wayM_least {g : G} (hn : (gPl g).length ≤ 20) {p : P2} (hp : p ∈ gPl g) : Least (arcsL g) p (wayM g p) := iter_least (asOk g) hn hp
end Go.Ox.Pl
namespace Go.Proofs.Ytcacicgkebcdkaa
open Go.RowKit Go.Ox Go.Ox.Gr Mo
theorem eqInPlD (x y : Pl.P2) (w : World) : (Op.equalIn 10000 26 (plV x) (plV y)).run Try.prog w = .ok (decide (x = y)) w := by
  obtain ⟨a, b⟩ := x
  obtain ⟨c, d⟩ := y
  rw [show (Op.equalIn 10000 26 (plV (a, b)) (plV (c, d))).run Try.prog w = _ from eqInPl a b c d w]
  have h : pB a b c d = decide ((a, b) = (c, d)) := by
    unfold pB
    by_cases h1 : a = c <;> by_cases h2 : b = d <;> simp [h1, h2]
  rw [h]
theorem chkPl (e : Bool) (x : Pl.P2) (w : World) : (Instr.checkKey e 10000 26 (plV x)).run Try.prog w = .ok () w := by
  kernel_rfl
theorem bitsPl (x : Pl.P2) : Instr.sameBits 10000 (plV x) (plV x) = true := by
  show Instr.sameBits (9999 + 1) (plV x) (plV x) = true
  simp [Instr.sameBits]
theorem keyPl : KeyE Try.prog 26 (fun p : Pl.P2 => plV p) where
  eq := eqInPlD
  chk := chkPl
  now x y es i b n := ⟨_, Try.underlying26, rfl, rfl⟩
  bits := bitsPl
theorem zeroWy (w : World) : (zeroValue 37).run Try.prog w = .ok (wV (false, 0)) w := by kernel_rfl
theorem ofE_iff {κ ν : Type} [DecidableEq κ] {l : List (κ × ν)} (hn : (l.map (·.1)).Nodup) {k : κ} {v : ν} : ofE k l = some v ↔ (k, v) ∈ l := by
  unfold ofE
  constructor
  · intro h
    cases hf : fdE k l 0 with
    | none => rw [hf] at h; cases h
    | some p =>
      rw [hf] at h
      simp only [Option.map_some, Option.some.injEq] at h
      subst h
      exact fdE_some (show fdE k l 0 = some (p.1, p.2) from hf)
  · intro h
    obtain ⟨j, hj⟩ := fdE_mem (i := 0) hn h
    rw [hj]; rfl
def WM (w : World) (b : Nat) (M : Pl.Mp) : Prop := ∃ l, MapE (fun p : Pl.P2 => plV p) (fun x : Pl.Wy => wV x) w b l ∧ ∀ k, ofE k l = M k
theorem WM.lt {w : World} {b : Nat} {M : Pl.Mp} (h : WM w b M) : b < w.heap.size := by obtain ⟨l, h1, _⟩ := h; exact h1.lt
theorem WM.ext {w w' : World} {b : Nat} {M : Pl.Mp} (h : WM w b M) (he : Ext w w') : WM w' b M := by
  obtain ⟨l, h1, h2⟩ := h
  exact ⟨l, h1.ext he, h2⟩
theorem run_lookB {P : Program} {κ ν : Type} [DecidableEq κ] {T t e : TypeId} {kV : κ → Value} {vV : ν → Value} (K : KeyE P T kV) (ht : P.underlying t = some (.map T e)) {w : World} {b : Nat} {l : List (κ × ν)} (h : MapE kV vV w b l) {z : ν} (hz : ∀ w, (zeroValue e).run P w = .ok (vV z) w) (k : κ) :
    (Instr.lookup t (.map (some b)) (kV k) true).run P w = .ok (.tuple #[vV ((ofE k l).getD z), .bool (ofE k l).isSome]) w := by
  obtain ⟨es, clock, hb, h1, _⟩ := h
  unfold Instr.lookup
  simp only [Sem.run_bind, run_underlying ht, Result.andThen, MapKept.run_getObj_map hb, Sem.run_pure, K.chk, run_findE K k w es.toList l h1]
  unfold ofE
  cases fdE k l 0 with
  | none => simp [hz]
  | some p => simp
theorem WM.look {w : World} {b : Nat} {M : Pl.Mp} (h : WM w b M) (k : Pl.P2) : (Instr.lookup 81 (.map (some b)) (plV k) true).run Try.prog w = .ok (.tuple #[wV ((M k).getD (false, 0)), .bool (M k).isSome]) w := by
  obtain ⟨l, h1, h2⟩ := h
  have := run_lookB keyPl Try.underlying81 h1 (z := (false, 0)) zeroWy k
  rw [h2 k] at this
  exact this
theorem WM.put {w : World} {b : Nat} {M : Pl.Mp} (h : WM w b M) (k : Pl.P2) (n : Pl.Wy) :
    ∃ w', (Instr.mapUpdate 81 (.map (some b)) (plV k) (wV n)).run Try.prog w = .ok () w' ∧ ExtM b w w' ∧ WM w' b (Pl.upd M k n) := by
  obtain ⟨l, h1, h2⟩ := h
  obtain ⟨w', l', h3, h4, h5, h6⟩ := h1.run_put keyPl Try.underlying81 k n
  refine ⟨w', h3, h5, l', h4, fun q => ?_⟩
  unfold Pl.upd
  have hn := h1.nodup
  have hn' := h4.nodup
  by_cases e : q = k
  · rw [if_pos e, ofE_iff hn', h6, e]; exact .inr rfl
  · rw [if_neg e]
    cases hm : M q with
    | none =>
      cases ho : ofE q l' with
      | none => rfl
      | some v =>
        have := (h6 _).1 ((ofE_iff hn').1 ho)
        rcases this with ⟨a, _⟩ | a
        · rw [← ofE_iff hn, h2, hm] at a; cases a
        · exact absurd (congrArg Prod.fst a) e
    | some v =>
      rw [ofE_iff hn', h6]
      exact .inl ⟨by rw [← ofE_iff hn, h2, hm], e⟩
theorem WM.new (w : World) (p : Pl.P2) : ∃ w', (Instr.mapUpdate 81 (.map (some w.heap.size)) (plV p) (wV (false, 0))).run Try.prog (w.alloc (.map #[] 0)) = .ok () w' ∧ Ext w w' ∧ WM w' w.heap.size (Pl.M0 p) := by
  have h : WM (w.alloc (.map #[] 0)) w.heap.size (fun _ => none) := ⟨[], MapE.new w, fun _ => rfl⟩
  obtain ⟨w', h1, h2, h3⟩ := h.put p (false, 0)
  exact ⟨w', h1, ((Ext.refl w).alloc _).andM h2 (Nat.le_refl _), h3⟩
theorem thenW_ok {x a : Pl.Wy} (hx : 0 ≤ x.2 ∧ x.2 ≤ 20) (ha : 0 ≤ a.2 ∧ a.2 ≤ 1) : thenW x a = (Pl.thn x a, 0) := by
  have e : bothW x a = Pl.thn x a := rfl
  have h1 : okW x = true := by unfold okW; rw [Bool.and_eq_true, decide_eq_true_eq, decide_eq_true_eq]; omega
  have h2 : okW a = true := by unfold okW; rw [Bool.and_eq_true, decide_eq_true_eq, decide_eq_true_eq]; omega
  have h3 : okW (Pl.thn x a) = true := by
    unfold okW Pl.thn
    rw [Bool.and_eq_true, decide_eq_true_eq, decide_eq_true_eq]
    split
    · omega
    · simp only; omega
  unfold thenW
  rw [e, h1, h2, h3, if_neg (by simp), if_neg (by simp)]
set_option maxHeartbeats 1000000 in
theorem less_any (x y : Pl.Wy) (w : World) : Calls Try.prog 70 #[wV x, wV y] w fun e w' => e = .returned (.bool (Pl.less x y)) ∧ Ext w w' := by
  have HL := Lib.hid (@Pl.less_iff x y)
  obtain ⟨x1, x2⟩ := x
  obtain ⟨y1, y2⟩ := y
  generalize Pl.less (x1, x2) (y1, y2) = r at *
  dsimp only at *
  have HX := Lib.hid (((Ext.refl w).alloc (.cells #[.bool x1, .int .i64 x2] 37)).alloc (.cells #[.bool y1, .int .i64 y2] 37))
  have hb := boxes2 w 37 37 (.bool x1) (.int .i64 x2) (.bool y1) (.int .i64 y2)
  obtain ⟨c1, c2, c3, c4⟩ := hb
  go_enter Try.func70, Try.ntmps70
  go_upto_region 1 with fail
  generalize (w.alloc (.cells #[.bool x1, .int .i64 x2] 37)).alloc (.cells #[.bool y1, .int .i64 y2] 37) = w2 at *
  generalize w.heap.size = p at *
  by_cases h1 : x2 < y2
  · have HR := Lib.hid (show r = true from HL.out.2 (.inl h1))
    go_wp2
    go_ret
    exact ⟨by rw [HR.out]; rfl, HX.out⟩
  · by_cases h2 : x2 = y2
    · subst h2
      cases x1 <;> cases y1
      case true.false =>
        have HR := Lib.hid (show r = true from HL.out.2 (.inr ⟨rfl, rfl, rfl⟩))
        go_wp2
        go_ret
        exact ⟨by rw [HR.out]; rfl, HX.out⟩
      all_goals
        have HR := Lib.hid (show r = false from by
          cases hr : r with
          | false => rfl
          | true => have := HL.out.1 hr; simp at this)
        go_wp2
        go_ret
        exact ⟨by rw [HR.out]; rfl, HX.out⟩
    · have HR := Lib.hid (show r = false from by
        cases hr : r with
        | false => rfl
        | true => have := HL.out.1 hr; omega)
      have h3 : (x2 == y2) = false := by simpa using h2
      clear h2
      go_wp2
      go_ret
      exact ⟨by rw [HR.out]; rfl, HX.out⟩
attribute [local irreducible] RE OE NodesR WM
theorem better_iff {M : Pl.Mp} {p v : Pl.P2} {w : Pl.Wy} : Pl.better M p v w ↔ v ≠ p ∧ ((M v).isSome = false ∨ Pl.less w ((M v).getD (false, 0)) = true) := by
  unfold Pl.better
  cases M v <;> simp
set_option maxHeartbeats 8000000 in
theorem ways_any (d : Nat) (v : Value) (g : G) (p : Pl.P2) (w : World) (hv : NodesR d w v g.1) (hn : (gPl g).length ≤ 20) (hp : p ∈ gPl g) :
    Calls Try.prog 45 #[gAg v g.2, plV p] w fun e w' => ∃ b, e = .returned (.map (some b)) ∧ WM w' b (Pl.wayM g p) ∧ Ext w w' := by
  have HAR := Lib.hid (fun W (h : Ext w W) => arcs_own d v g W (hv.ext h) hn)
  have HAS := Lib.hid (Pl.asOk g)
  have HAL := Lib.hid (Pl.arcsL_len hn)
  have HN := Lib.hid hn
  have HL := Lib.hid (fun M (h : Pl.Least (Pl.arcsL g) p M) => h.uniq (Pl.wayM_least hn hp))
  have HI0 := Lib.hid (Pl.inv0 (cs := Pl.arcsL g) hp)
  have HTH := Lib.hid (fun (x a : Pl.Wy) (w : World) => then_any x a w)
  have HLS := Lib.hid (fun (x a : Pl.Wy) (w : World) => less_any x a w)
  obtain ⟨l, out⟩ := g
  generalize Pl.wayM (l, out) p = WR at *
  generalize Pl.arcsL (l, out) = AL at *
  generalize gPl (l, out) = PL at *
  obtain ⟨A, c, rfl⟩ := hv.form
  have HX0 := Lib.hid (((Ext.refl w).alloc (gCs (.slice A l.length c) out)).alloc (.cells #[.int .i64 p.1, .int .i64 p.2] 26))
  have HB0 := Lib.hid ((Blk.new w 24 #[.slice A l.length c, .int .i64 out]).ext ((Ext.refl _).alloc (.cells #[.int .i64 p.1, .int .i64 p.2] 26)))
  have HP0 := Lib.hid (Blk.new (w.alloc (gCs (.slice A l.length c) out)) 26 #[.int .i64 p.1, .int .i64 p.2])
  obtain ⟨p1, p2⟩ := p
  dsimp only at HX0 HB0 HP0
  clear hv hn hp
  go_enter Try.func45, Try.ntmps45
  go_upto_region 1 with fail
  obtain ⟨q, hq⟩ : ∃ q, q = w.heap.size := ⟨_, rfl⟩
  have hq1 : (w.alloc (gCs (.slice A l.length c) out)).heap.size = q + 1 := by rw [hq]; simp
  rw [hq1] at HP0
  rw [← hq] at HB0 ⊢
  clear hq hq1
  generalize (w.alloc (gCs (.slice A l.length c) out)).alloc (.cells #[.int .i64 p1, .int .i64 p2] 26) = w0 at *
  have c0 : w0.cell? ⟨q, 0, none⟩ = some (.slice A l.length c) := HB0.out.cell 0
  have c1 : w0.cell? ⟨q, 1, none⟩ = some (.int .i64 out) := HB0.out.cell 1
  go_step3
  go_wp2_with fail
  refine (HAR.out w0 HX0.out).mono ?_
  rintro e w1 ⟨ua, rfl, hua, he1⟩
  obtain ⟨AA, cA, rfl⟩ := hua.re.form
  have HA1 := Lib.hid hua.re
  have HX1 := Lib.hid (HX0.out.trans he1)
  have HP1 := Lib.hid (HP0.out.ext he1)
  clear hua he1 c0 c1 HX0 HB0 HP0
  have hmm := @run_makeMap Try.prog
  have c0 : (w1.alloc (.map #[] 0)).cell? ⟨q + 1, 0, none⟩ = some (.int .i64 p1) := (HP1.out.ext ((Ext.refl _).alloc _)).cell 0
  have c1 : (w1.alloc (.map #[] 0)).cell? ⟨q + 1, 1, none⟩ = some (.int .i64 p2) := (HP1.out.ext ((Ext.refl _).alloc _)).cell 1
  obtain ⟨w2, hput, hx2, hm2⟩ := WM.new w1 (p1, p2)
  have HX2 := Lib.hid hx2
  have HM2 := Lib.hid hm2
  clear hx2 hm2
  go_wp2
  clear c0 c1 hput hmm
  obtain ⟨b, hb⟩ : ∃ b, b = w1.heap.size := ⟨_, rfl⟩
  rw [← hb] at HM2 ⊢
  have HBB := Lib.hid (show w1.heap.size ≤ b from Nat.le_of_eq hb.symm)
  clear hb
  go_step3
  go_wp2
  go_loopg [] 2000 (fun gg wr => ∃ M, Pl.Inv AL PL (p1, p2) M ∧ Pl.mu PL M ≤ gg ∧ WM wr b M ∧ Ext w1 wr)
  case atStart => exact ⟨_, HI0.out, Pl.mu_le _ _ HI0.out HN.out, HM2.out, HX2.out⟩
  case round =>
    obtain ⟨M, hinv, hmu, hm, hx⟩ := hrel
    rename World => wr
    have HINV := Lib.hid hinv
    have HMU := Lib.hid hmu
    have HM := Lib.hid hm
    have HX := Lib.hid hx
    clear hinv hmu hm hx
    go_wp2
    go_loopg [23] AL.length (fun gg kv wx => ∃ k : Nat, kv = .int .i64 (k : Int) ∧ k ≤ AL.length ∧ AL.length - k ≤ gg ∧ (∀ a ∈ AL.take k, ∀ x, M a.1.1 = some x → ¬ Pl.better M (p1, p2) a.1.2 (Pl.thn x a.2)) ∧ WM wx b M ∧ Ext w1 wx)
    case atStart => exact ⟨0, rfl, Nat.zero_le _, Nat.sub_le _ _, by simp, HM.out, HX.out⟩
    case round =>
      obtain ⟨k, rfl, hk, hg, hb, hm, hx⟩ := hrel
      rename World => wx
      have HG := Lib.hid hg
      have HB := Lib.hid hb
      have HMX := Lib.hid hm
      have HXX := Lib.hid hx
      have HAX := Lib.hid (HA1.out.ext hx)
      clear hg hb hm hx
      by_cases hlt : k < AL.length
      · have r1 : (k : Int) < (AL.length : Int) := by omega
        have hk9 : (k : Int) + 1 ≤ 1000000 := by have := HAL.out; omega
        have HLT := Lib.hid hlt
        obtain ⟨bA, oA, hAA, hcA⟩ := RE.at_ HAX.out hlt
        have HTK := Lib.hid (List.take_succ_eq_append_getElem hlt)
        have HMEM := Lib.hid (List.getElem_mem hlt)
        generalize AL[k] = y at *
        obtain ⟨⟨⟨f1, f2⟩, t1, t2⟩, s, ad⟩ := y
        have k0 : wx.cell? ⟨bA, oA + k * 6, none⟩ = some (.int .i64 f1) := hcA 0 _ rfl
        have k1 : wx.cell? ⟨bA, oA + k * 6 + 1, none⟩ = some (.int .i64 f2) := hcA 1 _ rfl
        have k2 : wx.cell? ⟨bA, oA + k * 6 + 2, none⟩ = some (.int .i64 t1) := hcA 2 _ rfl
        have k3 : wx.cell? ⟨bA, oA + k * 6 + 3, none⟩ = some (.int .i64 t2) := hcA 3 _ rfl
        have k4 : wx.cell? ⟨bA, oA + k * 6 + 4, none⟩ = some (.bool s) := hcA 4 _ rfl
        have k5 : wx.cell? ⟨bA, oA + k * 6 + 5, none⟩ = some (.int .i64 ad) := hcA 5 _ rfl
        subst hAA
        have HXN := Lib.hid ((Ext.refl wx).alloc (.cells #[.int .i64 f1, .int .i64 f2, .int .i64 t1, .int .i64 t2, .bool s, .int .i64 ad] 39))
        have HYN := Lib.hid (Blk.new wx 39 #[.int .i64 f1, .int .i64 f2, .int .i64 t1, .int .i64 t2, .bool s, .int .i64 ad])
        clear hcA hlt hk HAX
        go_upto_region 6 with fail
        clear k0 k1 k2 k3 k4 k5
        obtain ⟨q8, hq8⟩ : ∃ q, q = wx.heap.size := ⟨_, rfl⟩
        rw [← hq8] at HYN ⊢
        clear hq8
        have HM5 := Lib.hid (HMX.out.ext HXN.out)
        have HX5 := Lib.hid (HXX.out.trans HXN.out)
        generalize wx.alloc (.cells #[.int .i64 f1, .int .i64 f2, .int .i64 t1, .int .i64 t2, .bool s, .int .i64 ad] 39) = w5 at *
        clear HXN HMX HXX
        have a0 : w5.cell? ⟨q8, 0, none⟩ = some (.int .i64 f1) := HYN.out.cell 0
        have a1 : w5.cell? ⟨q8, 1, none⟩ = some (.int .i64 f2) := HYN.out.cell 1
        have lk := HM5.out.look (f1, f2)
        cases hM1 : M (f1, f2) with
        | none =>
          rw [hM1] at lk
          have lk1 : (Instr.lookup 81 (.map (some b)) (.agg #[.int .i64 f1, .int .i64 f2]) true).run Try.prog w5 = .ok (.tuple #[.agg #[.bool false, .int .i64 0], .bool false]) w5 := lk
          have HM1 := Lib.hid hM1
          clear lk hM1
          have HXN := Lib.hid ((Ext.refl w5).alloc (.cells #[.bool false, .int .i64 0] 37))
          have HNO := Lib.hid (show ∀ a ∈ AL.take (k + 1), ∀ x, M a.1.1 = some x → ¬ Pl.better M (p1, p2) a.1.2 (Pl.thn x a.2) from by
            rw [HTK.out]
            intro a ha x hx
            rcases List.mem_append.1 ha with e | e
            · exact HB.out a e x hx
            · rw [List.mem_singleton] at e
              subst e
              rw [HM1.out] at hx; cases hx)
          have HWM9 := Lib.hid (HM5.out.ext HXN.out)
          have HXX9 := Lib.hid (HX5.out.trans HXN.out)
          go_wp2
          go_roundg (AL.length - (k + 1))
          case measure => have h1 := HG.out; have h2 := HLT.out; omega
          case rel => exact ⟨k + 1, by first | rfl | go_num, HLT.out, Nat.le_refl _, HNO.out, HWM9.out, HXX9.out⟩
        | some x =>
          rw [hM1] at lk
          obtain ⟨x1, x2⟩ := x
          have lk1 : (Instr.lookup 81 (.map (some b)) (.agg #[.int .i64 f1, .int .i64 f2]) true).run Try.prog w5 = .ok (.tuple #[.agg #[.bool x1, .int .i64 x2], .bool true]) w5 := lk
          have HM1 := Lib.hid hM1
          clear lk hM1
          have HXN := Lib.hid ((Ext.refl w5).alloc (.cells #[.bool x1, .int .i64 x2] 37))
          have HZN := Lib.hid (Blk.new w5 37 #[.bool x1, .int .i64 x2])
          go_upto_region 8 with fail
          clear a0 a1 lk1
          obtain ⟨q9, hq9⟩ : ∃ q, q = w5.heap.size := ⟨_, rfl⟩
          rw [← hq9] at HZN ⊢
          clear hq9
          have HM6 := Lib.hid (HM5.out.ext HXN.out)
          have HX6 := Lib.hid (HX5.out.trans HXN.out)
          have HY6 := Lib.hid (HYN.out.ext HXN.out)
          generalize w5.alloc (.cells #[.bool x1, .int .i64 x2] 37) = w6 at *
          clear HXN HYN
          have a4 : w6.cell? ⟨q8, 4, none⟩ = some (.bool s) := HY6.out.cell 4
          have a5 : w6.cell? ⟨q8, 5, none⟩ = some (.int .i64 ad) := HY6.out.cell 5
          have d0 : w6.cell? ⟨q9, 0, none⟩ = some (.bool x1) := HZN.out.cell 0
          have d1 : w6.cell? ⟨q9, 1, none⟩ = some (.int .i64 x2) := HZN.out.cell 1
          have hbx := HINV.out.bnd _ _ HM1.out
          have hcn := Pl.cnt_le PL M
          have htw := thenW_ok (x := (x1, x2)) (a := (s, ad)) ⟨hbx.2.1, by have := hbx.2.2; have := HN.out; simp only; omega⟩ ⟨HAS.out.lo _ HMEM.out, HAS.out.hi _ HMEM.out⟩
          have HT := Lib.hid (HTH.out (x1, x2) (s, ad) w6)
          rw [htw] at HT
          clear htw hbx hcn
          obtain ⟨n1, n2, htn⟩ : ∃ n1 n2, Pl.thn (x1, x2) (s, ad) = (n1, n2) := ⟨_, _, rfl⟩
          have HTN := Lib.hid htn
          rw [htn] at HT
          clear htn
          go_wp2_with fail
          refine HT.out.mono ?_
          rintro e w7 ⟨rfl, he7⟩
          have HM7 := Lib.hid (HM6.out.ext he7)
          have HX7 := Lib.hid (HX6.out.trans he7)
          have HY7 := Lib.hid (HY6.out.ext he7)
          clear a4 a5 d0 d1 he7 HT HM6 HX6 HY6 HZN
          have HXN := Lib.hid ((Ext.refl w7).alloc (.cells #[.bool n1, .int .i64 n2] 37))
          have HNN := Lib.hid (Blk.new w7 37 #[.bool n1, .int .i64 n2])
          go_upto_region 9 with fail
          obtain ⟨q11, hq11⟩ : ∃ q, q = w7.heap.size := ⟨_, rfl⟩
          rw [← hq11] at HNN ⊢
          clear hq11
          have HM8 := Lib.hid (HM7.out.ext HXN.out)
          have HX8 := Lib.hid (HX7.out.trans HXN.out)
          have HY8 := Lib.hid (HY7.out.ext HXN.out)
          generalize w7.alloc (.cells #[.bool n1, .int .i64 n2] 37) = w8 at *
          clear HXN HM7 HX7 HY7
          have a2 : w8.cell? ⟨q8, 2, none⟩ = some (.int .i64 t1) := HY8.out.cell 2
          have a3 : w8.cell? ⟨q8, 3, none⟩ = some (.int .i64 t2) := HY8.out.cell 3
          have lk := HM8.out.look (t1, t2)
          have HBI := Lib.hid (@better_iff M (p1, p2) (t1, t2) (n1, n2))
          obtain ⟨z1, z2, hzz⟩ : ∃ z1 z2, (M (t1, t2)).getD (false, 0) = (z1, z2) := ⟨_, _, rfl⟩
          obtain ⟨hz, hhz⟩ : ∃ hz, (M (t1, t2)).isSome = hz := ⟨_, rfl⟩
          rw [hzz, hhz] at lk HBI
          have lk2 : (Instr.lookup 81 (.map (some b)) (.agg #[.int .i64 t1, .int .i64 t2]) true).run Try.prog w8 = .ok (.tuple #[.agg #[.bool z1, .int .i64 z2], .bool hz]) w8 := lk
          clear lk hzz hhz
          have HXN := Lib.hid ((Ext.refl w8).alloc (.cells #[.bool z1, .int .i64 z2] 37))
          have HZN := Lib.hid (Blk.new w8 37 #[.bool z1, .int .i64 z2])
          go_upto_region 10 with fail
          clear a2 a3 lk2
          obtain ⟨q13, hq13⟩ : ∃ q, q = w8.heap.size := ⟨_, rfl⟩
          rw [← hq13] at HZN ⊢
          clear hq13
          have HM9 := Lib.hid (HM8.out.ext HXN.out)
          have HX9 := Lib.hid (HX8.out.trans HXN.out)
          have HY9 := Lib.hid (HY8.out.ext HXN.out)
          have HN9 := Lib.hid (HNN.out.ext HXN.out)
          generalize w8.alloc (.cells #[.bool z1, .int .i64 z2] 37) = w9 at *
          clear HXN HM8 HX8 HY8 HNN
          have HP9 := Lib.hid (HP1.out.ext HX9.out)
          have a2 : w9.cell? ⟨q8, 2, none⟩ = some (.int .i64 t1) := HY9.out.cell 2
          have a3 : w9.cell? ⟨q8, 3, none⟩ = some (.int .i64 t2) := HY9.out.cell 3
          have p0 : w9.cell? ⟨q + 1, 0, none⟩ = some (.int .i64 p1) := HP9.out.cell 0
          have p1' : w9.cell? ⟨q + 1, 1, none⟩ = some (.int .i64 p2) := HP9.out.cell 1
          have n0 : w9.cell? ⟨q11, 0, none⟩ = some (.bool n1) := HN9.out.cell 0
          have n1' : w9.cell? ⟨q11, 1, none⟩ = some (.int .i64 n2) := HN9.out.cell 1
          have z0 : w9.cell? ⟨q13, 0, none⟩ = some (.bool z1) := HZN.out.cell 0
          have z1' : w9.cell? ⟨q13, 1, none⟩ = some (.int .i64 z2) := HZN.out.cell 1
          have hne := nePl t1 t2 p1 p2
          by_cases htp : (t1, t2) = (p1, p2)
          · rw [pB_t htp] at hne
            have HNB := Lib.hid (show ¬ Pl.better M (p1, p2) (t1, t2) (n1, n2) from fun h => (HBI.out.1 h).1 htp)
            clear htp
            have HNO := Lib.hid (show ∀ a ∈ AL.take (k + 1), ∀ x, M a.1.1 = some x → ¬ Pl.better M (p1, p2) a.1.2 (Pl.thn x a.2) from by
              rw [HTK.out]
              intro a ha x hx
              rcases List.mem_append.1 ha with e | e
              · exact HB.out a e x hx
              · rw [List.mem_singleton] at e
                subst e
                rw [HM1.out] at hx; injection hx with hx; subst hx; rw [HTN.out]; exact HNB.out)
            have HWM9 := Lib.hid (HM9.out)
            have HXX9 := Lib.hid (HX9.out)
            go_wp2
            go_roundg (AL.length - (k + 1))
            case measure => have h1 := HG.out; have h2 := HLT.out; omega
            case rel => exact ⟨k + 1, by first | rfl | go_num, HLT.out, Nat.le_refl _, HNO.out, HWM9.out, HXX9.out⟩
          · rw [pB_f htp] at hne
            have HTP := Lib.hid (show (t1, t2) ≠ (p1, p2) from htp)
            clear htp
            cases hz with
            | false =>
              have HBET := Lib.hid (show Pl.better M (p1, p2) (t1, t2) (Pl.thn (x1, x2) (s, ad)) from by rw [HTN.out]; exact HBI.out.2 ⟨HTP.out, .inl rfl⟩)
              obtain ⟨w10, hput, hxm, hwm⟩ := (HM9.out).put (t1, t2) (n1, n2)
              have HWM9 := Lib.hid hwm
              have HXX9 := Lib.hid ((HX9.out).andM hxm HBB.out)
              obtain ⟨hs1, hs2, _, _⟩ := HINV.out.step HAS.out HN.out HMEM.out HM1.out (show Pl.better M (p1, p2) (t1, t2) (Pl.thn (x1, x2) (s, ad)) from HBET.out)
              have HS := Lib.hid (show Pl.Inv AL PL (p1, p2) (Pl.upd M (t1, t2) (n1, n2)) ∧ Pl.mu PL (Pl.upd M (t1, t2) (n1, n2)) < Pl.mu PL M from by rw [← HTN.out]; exact ⟨hs1, hs2⟩)
              clear hwm hxm hs1 hs2
              go_wp2
              go_roundg (Pl.mu PL (Pl.upd M (t1, t2) (n1, n2)))
              case measure => have h1 := HMU.out; have h2 := HS.out.2; omega
              case rel => exact ⟨_, HS.out.1, Nat.le_refl _, HWM9.out, HXX9.out⟩
            | true =>
              have HL2 := Lib.hid (HLS.out (n1, n2) (z1, z2) w9)
              go_wp2_with fail
              refine HL2.out.mono ?_
              rintro e wl ⟨rfl, hel⟩
              have HML := Lib.hid (HM9.out.ext hel)
              have HXL := Lib.hid (HX9.out.trans hel)
              have a2 := hel.cell a2
              have a3 := hel.cell a3
              have n0 := hel.cell n0
              have n1' := hel.cell n1'
              clear hel p0 p1' z0 z1' hne
              cases hle : Pl.less (n1, n2) (z1, z2) with
              | true =>
                have HBET := Lib.hid (show Pl.better M (p1, p2) (t1, t2) (Pl.thn (x1, x2) (s, ad)) from by rw [HTN.out]; exact HBI.out.2 ⟨HTP.out, .inr hle⟩)
                clear hle
                obtain ⟨w10, hput, hxm, hwm⟩ := (HML.out).put (t1, t2) (n1, n2)
                have HWM9 := Lib.hid hwm
                have HXX9 := Lib.hid ((HXL.out).andM hxm HBB.out)
                obtain ⟨hs1, hs2, _, _⟩ := HINV.out.step HAS.out HN.out HMEM.out HM1.out (show Pl.better M (p1, p2) (t1, t2) (Pl.thn (x1, x2) (s, ad)) from HBET.out)
                have HS := Lib.hid (show Pl.Inv AL PL (p1, p2) (Pl.upd M (t1, t2) (n1, n2)) ∧ Pl.mu PL (Pl.upd M (t1, t2) (n1, n2)) < Pl.mu PL M from by rw [← HTN.out]; exact ⟨hs1, hs2⟩)
                clear hwm hxm hs1 hs2
                go_wp2
                go_roundg (Pl.mu PL (Pl.upd M (t1, t2) (n1, n2)))
                case measure => have h1 := HMU.out; have h2 := HS.out.2; omega
                case rel => exact ⟨_, HS.out.1, Nat.le_refl _, HWM9.out, HXX9.out⟩
              | false =>
                have HNB := Lib.hid (show ¬ Pl.better M (p1, p2) (t1, t2) (n1, n2) from fun h => by
                  rcases (HBI.out.1 h).2 with e | e
                  · cases e
                  · rw [hle] at e; cases e)
                clear hle
                have HNO := Lib.hid (show ∀ a ∈ AL.take (k + 1), ∀ x, M a.1.1 = some x → ¬ Pl.better M (p1, p2) a.1.2 (Pl.thn x a.2) from by
                  rw [HTK.out]
                  intro a ha x hx
                  rcases List.mem_append.1 ha with e | e
                  · exact HB.out a e x hx
                  · rw [List.mem_singleton] at e
                    subst e
                    rw [HM1.out] at hx; injection hx with hx; subst hx; rw [HTN.out]; exact HNB.out)
                have HWM9 := Lib.hid (HML.out)
                have HXX9 := Lib.hid (HXL.out)
                go_wp2
                go_roundg (AL.length - (k + 1))
                case measure => have h1 := HG.out; have h2 := HLT.out; omega
                case rel => exact ⟨k + 1, by first | rfl | go_num, HLT.out, Nat.le_refl _, HNO.out, HWM9.out, HXX9.out⟩
      · have r1 : ¬ (k : Int) < (AL.length : Int) := by omega
        obtain rfl : k = AL.length := by omega
        rw [List.take_length] at HB
        have HE := Lib.hid (HL.out M (HINV.out.least HB.out))
        have HF := Lib.hid (show WM wx b WR from by rw [← HE.out]; exact HMX.out)
        have HFX := Lib.hid (HX1.out.trans HXX.out)
        clear hlt hk
        go_wp2
        try rw [Exit.noGoto_ret]
        go_ret
        exact ⟨_, rfl, HF.out, HFX.out⟩
end Go.Proofs.Ytcacicgkebcdkaa
