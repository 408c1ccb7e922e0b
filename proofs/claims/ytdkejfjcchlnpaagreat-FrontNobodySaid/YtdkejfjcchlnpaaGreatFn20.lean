/-
  PlSym, packed: what the claim needs of them.
-/
import Derived.Test.YtdkejfjcchlnpaaGreatFn10
set_option maxHeartbeats 40000000
open Go.Lib (hid)
set_option linter.unusedSimpArgs false
set_option linter.unusedVariables false
namespace Go.Ox.Stab
open Go.Sort
variable {α : Type} [Inhabited α] {lt : α → α → Bool}
theorem rot_up {a k : Nat} {d D : Array α} (hk : a ≤ k) (hs : k + 1 < d.size) (hz : d.size = D.size) (h : ∀ t, d[t]! = a0t a (a + 1) (k + 1) D t) (t : Nat) : (swp d k (k + 1))[t]! = a0t a (a + 1) (k + 2) D t := by
 rw [swp_get d (by omega) (by omega), h, h, h]
 unfold a0t
 repeat' split
 all_goals first | rfl | exact a5B (by omega) | (exfalso; omega)
theorem b1U {m k : Nat} {d D : Array α} (hk : k + 1 ≤ m) (hs : m < d.size) (h : ∀ t, d[t]! = a0t (k + 1) m (m + 1) D t) (t : Nat) : (swp d (k + 1) k)[t]! = a0t k m (m + 1) D t := by
 rw [swp_get d (by omega) (by omega), h, h, h]
 unfold a0t
 repeat' split
 all_goals first | rfl | exact a5B (by omega) | (exfalso; omega)
theorem SM.b1V (hO : SWO lt) {a b i : Nat} {d d1 : Array α} (hs : b ≤ d.size) (h1 : a + 1 ≤ i) (h2 : i ≤ b) (hQ : i = a + 1 ∨ lt d[i - 1]! d[a]! = true) (hP : i = b ∨ lt d[i]! d[a]! = false)
 (hd : ∀ k, d1[k]! = a0t a (a + 1) i d k) (hp : PermIn a b d d1) : SM lt a (a + 1) b d d1 := by
 refine SM.join (mid := i - 1) (st := a) (en := i) (d2 := d1) hO hs (Nat.le_refl _) (by omega) h1 h2 (by omega) (.inl rfl) (hQ.elim (fun h => .inr (.inl h)) fun h => .inr (.inr h)) hd hp (SM.left d1 a (i - 1)) (SM.adj hO ?_)
 rcases hP with h | h
 · exact .inr (.inl (by omega))
 refine .inr (.inr ?_);have e1 : d1[i]! = d[i]! := by rw [hd]; unfold a0t; rw [if_neg (by omega), if_neg (by omega)]
 have e2 : d1[i - 1]! = d[a]! := by
  rw [hd]; unfold a0t; rw [if_neg (by omega), if_pos (by omega)]; exact a5B (by omega)
 rw [e1, e2]; exact h
theorem SM.a9S (hO : SWO lt) {a m i : Nat} {d d1 : Array α} (hs : m + 1 ≤ d.size) (h1 : a ≤ i) (h2 : i ≤ m) (hP : i = a ∨ lt d[m]! d[i - 1]! = false) (hQ : i = m ∨ lt d[m]! d[i]! = true)
 (hd : ∀ k, d1[k]! = a0t i m (m + 1) d k) (hp : PermIn a (m + 1) d d1) : SM lt a m (m + 1) d d1 := by
 refine SM.join (mid := i + 1) (st := i) (en := m + 1) (d2 := d1) hO hs h1 h2 (by omega) (Nat.le_refl _) (by omega) (.inr (.inl rfl)) (hQ.elim .inl fun h => .inr (.inr h)) hd hp (SM.adj hO ?_) (SM.right d1 (i + 1) (m + 1))
 by_cases hi : i ≤ a
 · exact .inl hi
 rcases hP with h | h
 · omega
 refine .inr (.inr ?_);have e1 : d1[i]! = d[m]! := by rw [hd]; unfold a0t; rw [if_pos (by omega)]; exact a5B (by omega)
 have e2 : d1[i - 1]! = d[i - 1]! := by rw [hd]; unfold a0t; rw [if_neg (by omega), if_neg (by omega)]
 rw [e1, e2]; exact h
end Go.Ox.Stab
namespace Go.Proofs.YtdkejfjcchlnpaaGreat
open Go.RowKit Go.Ox Go.Shelf Go.Sort
abbrev ltA : Pl.Ar → Pl.Ar → Bool := Go.Proofs.ltOf Pl.a6M
theorem a9T (a b : Mom.M) : (Mom.cmp a b < 0 ↔ Mom.lt a b) ∧ (Mom.cmp a b = 0 ↔ a = b) := by
 obtain ⟨a1, a2⟩ := a;obtain ⟨b1, b2⟩ := b;unfold Mom.cmp Mom.lt;simp only [Prod.mk.injEq];constructor <;> (repeat' split) <;> omega
theorem a7P (x y : Pl.Ar) : ltA x y = true ↔ (Mom.lt x.1.1 y.1.1 ∨ (x.1.1 = y.1.1 ∧ Mom.lt x.1.2 y.1.2)) := by
 unfold ltA Go.Proofs.ltOf Pl.a6M;rw [decide_eq_true_eq];obtain ⟨h1, h2⟩ := a9T x.1.1 y.1.1;obtain ⟨h3, h4⟩ := a9T x.1.2 y.1.2
 by_cases h : Mom.cmp x.1.1 y.1.1 = 0
 · rw [if_neg (by simpa using h), h3]
   have e := h2.1 h;constructor
   · intro q; exact .inr ⟨e, q⟩
   rintro (q | q)
   · rw [← h1, h] at q; omega
   exact q.2
 rw [if_pos h, h1];constructor
 · intro q; exact .inl q
 rintro (q | q)
 · exact q
 exact absurd (h2.2 q.1) h
theorem swoA : SWO ltA where
 irrefl x := by
  rw [Bool.eq_false_iff]; intro h; rw [a7P] at h; unfold Mom.lt at h; omega
 trans x y z h1 h2 := by
  rw [a7P] at *;obtain ⟨⟨⟨x1, x2⟩, x3, x4⟩, x5⟩ := x;obtain ⟨⟨⟨y1, y2⟩, y3, y4⟩, y5⟩ := y;obtain ⟨⟨⟨z1, z2⟩, z3, z4⟩, z5⟩ := z;unfold Mom.lt at *;simp only [Prod.mk.injEq] at *;omega
 ntrans x y z h1 h2 := by
  rw [Bool.eq_false_iff, ne_eq, a7P] at *;obtain ⟨⟨⟨x1, x2⟩, x3, x4⟩, x5⟩ := x;obtain ⟨⟨⟨y1, y2⟩, y3, y4⟩, y5⟩ := y;obtain ⟨⟨⟨z1, z2⟩, z3, z4⟩, z5⟩ := z;unfold Mom.lt at *;simp only [Prod.mk.injEq] at *;omega
theorem egA : ∀ args w, (callFunc 171 args).run Tryz.prog w = .ok (.enter 171 args) w := enters_of Tryz.func171 (by kernel_rfl) rfl
section
variable {w0 : World} {blk off : Nat} {d0 : Array Pl.Ar}
theorem a4f (R : RowK encA.enc 6 w0 blk off d0) (HC : Go.Proofs.CmpLays Tryz.prog 171 #[] encA.enc 6 Pl.a6M blk off d0.size w0) {D : Array Pl.Ar} {W : World} (S : SWK encA.enc 6 w0 blk off D W) (hs : D.size = d0.size) (x y : Nat) (hx : x < D.size) (hy : y < D.size) :
 ∃ (kk : Nat) (cA cB : List Value), kk = 6 ∧
  (∀ n os, Sem.run Tryz.prog (loadCellsFrom ⟨blk, off + x * 6, none⟩ 0 kk #[]) (grow (W.drewN n) os) = .ok cA.toArray (grow (W.drewN n) os)) ∧
  (∀ n os, Sem.run Tryz.prog (loadCellsFrom ⟨blk, off + y * 6, none⟩ 0 kk #[]) (grow (W.drewN n) os) = .ok cB.toArray (grow (W.drewN n) os)) ∧
  (∀ n os, Calls Tryz.prog 171 (#[.agg cA.toArray, .agg cB.toArray] ++ #[]) (grow (W.drewN n) os) fun e w' => e = .returned (.int .i64 (Pl.a6M D[x]! D[y]!)) ∧ ∃ q os', w' = grow ((grow (W.drewN n) os).drewN q) os') :=
 ⟨6, encA.enc D[x]!, encA.enc D[y]!, rfl, fun n os => S.ld R hs _ x hx n os, fun n os => S.ld R hs _ y hy n os, fun n os => S.cmp HC hs _ _ n os⟩
abbrev a4g (w0 : World) (blk off a m b : Nat) (D : Array Pl.Ar) (e : Ending) (w' : World) : Prop := e = .returned (.tuple #[]) ∧ ∃ D', SWK encA.enc 6 w0 blk off D' w' ∧ Stab.SM ltA a m b D D'
set_option maxRecDepth 1000000 in
theorem b1W (R : RowK encA.enc 6 w0 blk off d0) (HC : Go.Proofs.CmpLays Tryz.prog 171 #[] encA.enc 6 Pl.a6M blk off d0.size w0) (cap a m b : Nat) (D : Array Pl.Ar) (W : World) (S : SWK encA.enc 6 w0 blk off D W) (hs : D.size = d0.size) (h1 : a < m) (h2 : m < b) (h3 : b ≤ D.size) (hsz : D.size < 1000000000) (hm : m = a + 1) :
 Calls Tryz.prog 193 #[.slice (some ⟨blk, off, none⟩) D.size cap, .int .i64 a, .int .i64 m, .int .i64 b, .func (.func 171) #[] #[]] W (a4g w0 blk off a m b D) := by
 have HS := hid S;have HRR := hid R;have HCM := hid HC;have HB := hid (show D.size = d0.size ∧ a < m ∧ m < b ∧ b ≤ D.size ∧ D.size < 1000000000 from ⟨hs, h1, h2, h3, hsz⟩);have e1 : ((m : Int) - (a : Int)) = 1 := by omega
 have HMA := hid hm;clear S R HC hs h1 h2 h3 hsz hm
 go_enter Tryz.func193, Tryz.ntmps193
 go_wp2
 go_loopg [10, 11] (b - m) (fun g vi vj wr => ∃ i j : Nat, vi = .int .i64 (i : Int) ∧ vj = .int .i64 (j : Int) ∧ m ≤ i ∧ i ≤ j ∧ j ≤ b ∧ j - i ≤ g ∧ (i = m ∨ ltA D[i - 1]! D[a]! = true) ∧ (j = b ∨ ltA D[j]! D[a]! = false) ∧ SWK encA.enc 6 w0 blk off D wr)
 case atStart => exact ⟨m, b, rfl, rfl, Nat.le_refl _, by have := HB.o; omega, Nat.le_refl _, by omega, .inl rfl, .inl rfl, HS.o⟩
 case round =>
 obtain ⟨i, j, rfl, rfl, hi, hij, hj, hg, hq, hp, hw⟩ := hrel;have HI := hid (show m ≤ i ∧ i ≤ j ∧ j ≤ b ∧ j - i ≤ gk from ⟨hi, hij, hj, hg⟩);have HQ := hid hq;have HP := hid hp;have HW := hid hw;clear hi hij hj hg hq hp hw
 by_cases hlt : i < j
 · have g1 : (i : Int) < (j : Int) := by omega
   obtain ⟨h, hh⟩ : ∃ h, h = (i + j) / 2 := ⟨_, rfl⟩;have HX9 := hid (show i ≤ h ∧ h < j ∧ h < D.size ∧ j ≤ b from by have h1 := HI.o; have h2 := HB.o; omega)
   have hx9 := HX9.o;have hb9 := HB.o;obtain ⟨z, hz⟩ : ∃ z, z = i + j := ⟨_, rfl⟩;have q5 : ((i : Int) + (j : Int)) = (z : Int) := by omega
   have q6 : IntKind.i64.wrap (z : Int) = (z : Int) := IntWalk.i64_in _ (by omega)
   have q7 : (z : Int) / 2 = (h : Int) := by omega
   have q8 : IntKind.u64.wrap (z : Int) = (z : Int) := by rw [IntKind.wrap_u64]; omega
   have q9 : IntKind.i64.wrap (h : Int) = (h : Int) := IntWalk.i64_in _ (by omega)
   have z1 : (h : Int) < (D.size : Int) := by omega
   have z2 : (a : Int) < (D.size : Int) := by omega
   have hi9 : (h : Int) + 1 ≤ 1000000000 := by omega
   have HLT := hid hlt;clear hh hz hx9 hb9 hlt e1;obtain ⟨kk, cA, cB, hkk, l1, l2, hcg⟩ := a4f HRR.o HCM.o HW.o HB.o.1 h a (by have h1 := HX9.o; have h2 := HB.o; omega) (by have h1 := HX9.o; have h2 := HB.o; omega)
   obtain ⟨cv, hcv⟩ : ∃ cc, cc = Pl.a6M D[h]! D[a]! := ⟨_, rfl⟩;rw [← hcv] at hcg;have HCV := hid hcv;have mixed := a3z;have eg := egA;clear hcv
   go_upto_region 5 with fail
   obtain ⟨T, hT⟩ : ∃ T, T = 144 := ⟨_, rfl⟩;rw [← hT];have aT : ∀ w, (isAgg T).run Tryz.prog w = .ok true w := by rw [hT]; exact Tryz.isAgg144
   have zT : ∀ w, (Go.sizeOf T).run Tryz.prog w = .ok kk w := by rw [hT, hkk]; exact Tryz.sizeOf144
   clear hT hkk
   by_cases hc : cv < 0
   · have HL := hid (show ltA D[h]! D[a]! = true from by rw [HCV.o] at hc; exact decide_eq_true hc)
     go_wp2_with fail
     go_quiet_grown (first | (go_at_fn 171; refine Calls.grown_of (hcg _ _)))
     have HW2 := hid (HW.o.grown nq osq);have hd : decide (cv < 0) = true := decide_eq_true hc;clear q5 q6 q7 q8 q9 l1 l2 hcg;generalize grow (wr.drewN nq) osq = w9 at *
     go_wp2
     go_roundg (j - (h + 1))
     case measure => have h1 := HX9.o; have h2 := HI.o; omega
     case rel => exact ⟨h + 1, j, by first | rfl | go_num, rfl, by have h1 := HX9.o; have h2 := HI.o; omega, by have h1 := HX9.o; omega, HX9.o.2.2.2, Nat.le_refl _, .inr HL.o, HP.o, HW2.o⟩
   have HL := hid (show ltA D[h]! D[a]! = false from by rw [HCV.o] at hc; exact decide_eq_false hc)
   have hd : decide (cv < 0) = false := decide_eq_false hc;clear hc hi9
   go_wp2_with fail
   go_quiet_grown (first | (go_at_fn 171; refine Calls.grown_of (hcg _ _)))
   have HW2 := hid (HW.o.grown nq osq);clear q5 q6 q7 q8 q9 l1 l2 hcg;generalize grow (wr.drewN nq) osq = w9 at *
   go_wp2
   go_roundg (h - i)
   case measure => have h1 := HX9.o; have h2 := HI.o; omega
   case rel => exact ⟨i, h, rfl, rfl, HI.o.1, HX9.o.1, by have h1 := HX9.o; omega, Nat.le_refl _, HQ.o, .inr HL.o, HW2.o⟩
 have g1 : ¬ (i : Int) < (j : Int) := by omega
 obtain rfl : i = j := by have := HI.o; omega
 obtain ⟨ii, hii⟩ : ∃ ii, i = ii + 1 := ⟨i - 1, by have h1 := HI.o; have h2 := HB.o; omega⟩
 have q5 : ((i : Int) - 1) = (ii : Int) := by omega
 have q6 : IntKind.i64.wrap (ii : Int) = (ii : Int) := IntWalk.i64_in _ (by have h1 := HI.o; have h2 := HB.o; omega)
 have HII := hid hii;clear hlt hii e1
 go_wp2
 go_loopg [13] (i - 1 - a) (fun g vk wr => ∃ (k : Nat) (D' : Array Pl.Ar), vk = .int .i64 (k : Int) ∧ a ≤ k ∧ k ≤ ii ∧ ii - k ≤ g ∧ PermIn a b D D' ∧ (∀ t, D'[t]! = Stab.a0t a (a + 1) (k + 1) D t) ∧ SWK encA.enc 6 w0 blk off D' wr)
 case atStart => exact ⟨a, D, rfl, Nat.le_refl _, by have h1 := HI.o; have h2 := HMA.o; have h3 := HII.o; omega, by have h3 := HII.o; omega, permIn_refl D a b, fun t => (Stab.a3d (.inr rfl) (by omega) (by omega) t).symm, HW.o⟩
 case round =>
 obtain ⟨k, D', rfl, hk, hki, hg, hpm, hrt, hw2⟩ := hrel;have HK := hid (show a ≤ k ∧ k ≤ ii ∧ ii - k ≤ gk from ⟨hk, hki, hg⟩);have HPM := hid hpm;have HRT := hid hrt;have HW2 := hid hw2;have hsz := hpm.1;clear hk hki hg hpm hrt hw2
 by_cases hlt : k < ii
 · have g2 : (k : Int) < (ii : Int) := by omega
   obtain ⟨y, hy⟩ : ∃ y, y = k + 1 := ⟨_, rfl⟩;have HX9 := hid (show k < D.size ∧ y < D.size ∧ y ≤ ii ∧ y < b from by have h1 := HI.o; have h2 := HB.o; have h3 := HII.o; omega)
   have hx9 := HX9.o;have hb9 := HB.o;have u5 : ((k : Int) + 1) = (y : Int) := by omega
   have u6 : IntKind.i64.wrap (y : Int) = (y : Int) := IntWalk.i64_in _ (by omega)
   have z1 : (k : Int) < (D.size : Int) := by omega
   have z2 : (y : Int) < (D.size : Int) := by omega
   have HYY := hid hy;have HPM2 := hid (permIn_trans _ _ _ a b HPM.o (swp_permIn D' a b k y (by have := HK.o; omega) (by omega) (by have := HK.o; omega) (by omega) (by omega)))
   have HRT2 := hid (show ∀ t, (swp D' k y)[t]! = Stab.a0t a (a + 1) (y + 1) D t from fun t => by rw [hy]; exact Stab.rot_up HK.o.1 (by omega) hsz HRT.o t)
   have HSZ := hid hsz;clear hlt hy hx9 hb9 hsz;obtain ⟨kk, cA, cB, hkk, lA, lB, l1, l2, s1, s2, sw⟩ := a3e HRR.o HW2.o (HSZ.o.trans HB.o.1) k y (by have h1 := HX9.o; have h2 := HB.o; have h3 := HSZ.o; omega) (by have h1 := HX9.o; have h2 := HB.o; have h3 := HSZ.o; omega)
   have HSW := hid sw;have mixed := a3z;clear sw
   go_upto_region 11 with fail
   obtain ⟨T, hT⟩ : ∃ T, T = 144 := ⟨_, rfl⟩;rw [← hT];have aT : ∀ w, (isAgg T).run Tryz.prog w = .ok true w := by rw [hT]; exact Tryz.isAgg144
   have zT : ∀ w, (Go.sizeOf T).run Tryz.prog w = .ok kk w := by rw [hT, hkk]; exact Tryz.sizeOf144
   clear hT hkk
   go_big_region_o
   all_goals go_wp2
   go_roundg (ii - y)
   case measure => have h1 := HK.o; have h2 := HX9.o; have h3 := HYY.o; omega
   case rel => exact ⟨y, _, by first | rfl | go_num, by have h1 := HK.o; have h3 := HYY.o; omega, HX9.o.2.2.1, Nat.le_refl _, HPM2.o, HRT2.o, HSW.o⟩
 have g2 : ¬ (k : Int) < (ii : Int) := by omega
 obtain rfl : k = ii := by have := HK.o; omega
 have HSM := hid (show Stab.SM ltA a m b D D' from by
  have h1 := HI.o; have h2 := HB.o; have h3 := HMA.o; have h4 := HII.o;subst h3
  exact Stab.SM.b1V (i := i) swoA h2.2.2.2.1 (by omega) h1.2.2.1 (HQ.o) (HP.o) (fun t => by rw [HRT.o, ← h4]) HPM.o)
 clear hlt hsz
 go_wp2
 go_end0
 exact ⟨rfl, D', HW2.o, HSM.o⟩
set_option maxRecDepth 1000000 in
theorem a9U (R : RowK encA.enc 6 w0 blk off d0) (HC : Go.Proofs.CmpLays Tryz.prog 171 #[] encA.enc 6 Pl.a6M blk off d0.size w0) (cap a m b : Nat) (D : Array Pl.Ar) (W : World) (S : SWK encA.enc 6 w0 blk off D W) (hs : D.size = d0.size) (h1 : a < m) (h2 : m < b) (h3 : b ≤ D.size) (hsz : D.size < 1000000000) (hm : b = m + 1) (hm1 : m ≠ a + 1) :
 Calls Tryz.prog 193 #[.slice (some ⟨blk, off, none⟩) D.size cap, .int .i64 a, .int .i64 m, .int .i64 b, .func (.func 171) #[] #[]] W (a4g w0 blk off a m b D) := by
 have HS := hid S;have HRR := hid R;have HCM := hid HC;have HB := hid (show D.size = d0.size ∧ a < m ∧ m < b ∧ b ≤ D.size ∧ D.size < 1000000000 from ⟨hs, h1, h2, h3, hsz⟩);obtain ⟨ma, hma⟩ : ∃ x, x = m - a := ⟨_, rfl⟩;have e1 : ((m : Int) - (a : Int)) = (ma : Int) := by omega
 have e2 : IntKind.i64.wrap (ma : Int) = (ma : Int) := IntWalk.i64_in _ (by omega)
 have e3 : ((ma : Int) == 1) = false := beq_eq_false_iff_ne.2 (by omega)
 have e4 : ¬ (ma : Int) = 1 := by omega
 have e5 : ((b : Int) - (m : Int)) = 1 := by omega
 have HMB := hid hm;clear S R HC hs h1 h2 h3 hsz hm hm1 hma
 go_enter Tryz.func193, Tryz.ntmps193
 go_wp2
 go_loopg [14, 15] (m - a) (fun g vi vj wr => ∃ i j : Nat, vi = .int .i64 (i : Int) ∧ vj = .int .i64 (j : Int) ∧ a ≤ i ∧ i ≤ j ∧ j ≤ m ∧ j - i ≤ g ∧ (i = a ∨ ltA D[m]! D[i - 1]! = false) ∧ (j = m ∨ ltA D[m]! D[j]! = true) ∧ SWK encA.enc 6 w0 blk off D wr)
 case atStart => exact ⟨a, m, rfl, rfl, Nat.le_refl _, by have := HB.o; omega, Nat.le_refl _, by omega, .inl rfl, .inl rfl, HS.o⟩
 case round =>
 obtain ⟨i, j, rfl, rfl, hi, hij, hj, hg, hq, hp, hw⟩ := hrel;have HI := hid (show a ≤ i ∧ i ≤ j ∧ j ≤ m ∧ j - i ≤ gk from ⟨hi, hij, hj, hg⟩);have HQ := hid hq;have HP := hid hp;have HW := hid hw;clear hi hij hj hg hq hp hw e1 e2 e3 e4 e5
 by_cases hlt : i < j
 · have g1 : (i : Int) < (j : Int) := by omega
   obtain ⟨h, hh⟩ : ∃ h, h = (i + j) / 2 := ⟨_, rfl⟩;have HX9 := hid (show i ≤ h ∧ h < j ∧ h < D.size ∧ j ≤ m ∧ m < D.size from by have h1 := HI.o; have h2 := HB.o; omega)
   have hx9 := HX9.o;have hb9 := HB.o;obtain ⟨z, hz⟩ : ∃ z, z = i + j := ⟨_, rfl⟩;have q5 : ((i : Int) + (j : Int)) = (z : Int) := by omega
   have q6 : IntKind.i64.wrap (z : Int) = (z : Int) := IntWalk.i64_in _ (by omega)
   have q7 : (z : Int) / 2 = (h : Int) := by omega
   have q8 : IntKind.u64.wrap (z : Int) = (z : Int) := by rw [IntKind.wrap_u64]; omega
   have q9 : IntKind.i64.wrap (h : Int) = (h : Int) := IntWalk.i64_in _ (by omega)
   have z1 : (h : Int) < (D.size : Int) := by omega
   have z2 : (m : Int) < (D.size : Int) := by omega
   have hi9 : (h : Int) + 1 ≤ 1000000000 := by omega
   clear hh hz hx9 hb9 hlt;obtain ⟨kk, cA, cB, hkk, l1, l2, hcg⟩ := a4f HRR.o HCM.o HW.o HB.o.1 m h (by have h1 := HX9.o; have h2 := HB.o; omega) (by have h1 := HX9.o; have h2 := HB.o; omega)
   obtain ⟨cv, hcv⟩ : ∃ cc, cc = Pl.a6M D[m]! D[h]! := ⟨_, rfl⟩;rw [← hcv] at hcg;have HCV := hid hcv;have mixed := a3z;have eg := egA;clear hcv
   go_upto_region 17 with fail
   obtain ⟨T, hT⟩ : ∃ T, T = 144 := ⟨_, rfl⟩;rw [← hT];have aT : ∀ w, (isAgg T).run Tryz.prog w = .ok true w := by rw [hT]; exact Tryz.isAgg144
   have zT : ∀ w, (Go.sizeOf T).run Tryz.prog w = .ok kk w := by rw [hT, hkk]; exact Tryz.sizeOf144
   clear hT hkk
   by_cases hc : cv < 0
   · have HL := hid (show ltA D[m]! D[h]! = true from by rw [HCV.o] at hc; exact decide_eq_true hc)
     have hd : decide (cv < 0) = true := decide_eq_true hc;clear hi9
     go_wp2_with fail
     go_quiet_grown (first | (go_at_fn 171; refine Calls.grown_of (hcg _ _)))
     have HW2 := hid (HW.o.grown nq osq);clear q5 q6 q7 q8 q9 l1 l2 hcg;generalize grow (wr.drewN nq) osq = w9 at *
     go_wp2
     go_roundg (h - i)
     case measure => have h1 := HX9.o; have h2 := HI.o; omega
     case rel => exact ⟨i, h, rfl, rfl, HI.o.1, HX9.o.1, by have h1 := HX9.o; omega, Nat.le_refl _, HQ.o, .inr HL.o, HW2.o⟩
   have HL := hid (show ltA D[m]! D[h]! = false from by rw [HCV.o] at hc; exact decide_eq_false hc)
   have hd : decide (cv < 0) = false := decide_eq_false hc;clear hc
   go_wp2_with fail
   go_quiet_grown (first | (go_at_fn 171; refine Calls.grown_of (hcg _ _)))
   have HW2 := hid (HW.o.grown nq osq);clear q5 q6 q7 q8 q9 l1 l2 hcg;generalize grow (wr.drewN nq) osq = w9 at *
   go_wp2
   go_roundg (j - (h + 1))
   case measure => have h1 := HX9.o; have h2 := HI.o; omega
   case rel => exact ⟨h + 1, j, by first | rfl | go_num, rfl, by have h1 := HX9.o; have h2 := HI.o; omega, by have h1 := HX9.o; omega, HX9.o.2.2.2.1, Nat.le_refl _, .inr HL.o, HP.o, HW2.o⟩
 have g1 : ¬ (i : Int) < (j : Int) := by omega
 obtain rfl : i = j := by have := HI.o; omega
 clear hlt
 go_wp2
 go_loopg [17] (m - i) (fun g vk wr => ∃ (k : Nat) (D' : Array Pl.Ar), vk = .int .i64 (k : Int) ∧ i ≤ k ∧ k ≤ m ∧ k - i ≤ g ∧ PermIn a b D D' ∧ (∀ t, D'[t]! = Stab.a0t k m (m + 1) D t) ∧ SWK encA.enc 6 w0 blk off D' wr)
 case atStart => exact ⟨m, D, rfl, HI.o.2.2.1, Nat.le_refl _, Nat.le_refl _, permIn_refl D a b, fun t => (Stab.a3d (.inl rfl) (by omega) (by omega) t).symm, HW.o⟩
 case round =>
 obtain ⟨k, D', rfl, hk, hki, hg, hpm, hrt, hw2⟩ := hrel;have HK := hid (show i ≤ k ∧ k ≤ m ∧ k - i ≤ gk from ⟨hk, hki, hg⟩);have HPM := hid hpm;have HRT := hid hrt;have HW2 := hid hw2;have hsz := hpm.1;clear hk hki hg hpm hrt hw2
 by_cases hlt : i < k
 · obtain ⟨y, rfl⟩ : ∃ y, k = y + 1 := ⟨k - 1, by omega⟩
   obtain ⟨k, hk⟩ : ∃ k, k = y + 1 := ⟨_, rfl⟩;rw [← hk] at HK HRT ⊢;have g2 : (i : Int) < (k : Int) := by omega
   have HX9 := hid (show k < D.size ∧ y < D.size ∧ i ≤ y ∧ k = y + 1 ∧ m < D.size from by have h1 := HI.o; have h2 := HB.o; have h3 := HK.o; omega)
   have hx9 := HX9.o;have hb9 := HB.o;have u5 : ((k : Int) - 1) = (y : Int) := by omega
   have u6 : IntKind.i64.wrap (y : Int) = (y : Int) := IntWalk.i64_in _ (by omega)
   have z1 : (k : Int) < (D.size : Int) := by omega
   have z2 : (y : Int) < (D.size : Int) := by omega
   have HPM2 := hid (permIn_trans _ _ _ a b HPM.o (swp_permIn D' a b k y (by have := HK.o; have := HI.o; omega) (by have := HK.o; omega) (by have := HI.o; omega) (by have := HK.o; omega) (by omega)))
   have HRT2 := hid (show ∀ t, (swp D' k y)[t]! = Stab.a0t y m (m + 1) D t from fun t => by rw [hk]; exact Stab.b1U (by have := HK.o; omega) (by omega) (by rw [← hk]; exact HRT.o) t)
   have HSZ := hid hsz;clear hlt hk hx9 hb9 hsz;obtain ⟨kk, cA, cB, hkk, lA, lB, l1, l2, s1, s2, sw⟩ := a3e HRR.o HW2.o (HSZ.o.trans HB.o.1) k y (by have h1 := HX9.o; have h2 := HB.o; have h3 := HSZ.o; omega) (by have h1 := HX9.o; have h2 := HB.o; have h3 := HSZ.o; omega)
   have HSW := hid sw;have mixed := a3z;clear sw
   go_upto_region 23 with fail
   obtain ⟨T, hT⟩ : ∃ T, T = 144 := ⟨_, rfl⟩;rw [← hT];have aT : ∀ w, (isAgg T).run Tryz.prog w = .ok true w := by rw [hT]; exact Tryz.isAgg144
   have zT : ∀ w, (Go.sizeOf T).run Tryz.prog w = .ok kk w := by rw [hT, hkk]; exact Tryz.sizeOf144
   clear hT hkk
   go_big_region_o
   all_goals go_wp2
   go_roundg (y - i)
   case measure => have h1 := HK.o; have h2 := HX9.o; omega
   case rel => exact ⟨y, _, by first | rfl | go_num, HX9.o.2.2.1, by have h1 := HK.o; have h2 := HX9.o; omega, Nat.le_refl _, HPM2.o, HRT2.o, HSW.o⟩
 have g2 : ¬ (i : Int) < (k : Int) := by omega
 obtain rfl : k = i := by have := HK.o; omega
 have HSM := hid (show Stab.SM ltA a m b D D' from by
  have h1 := HI.o; have h2 := HB.o; have h3 := HMB.o;subst h3
  exact Stab.SM.a9S (i := k) swoA h2.2.2.2.1 h1.1 h1.2.2.1 HQ.o HP.o HRT.o HPM.o)
 clear hlt hsz
 go_wp2
 go_end0
 exact ⟨rfl, D', HW2.o, HSM.o⟩
end
end Go.Proofs.YtdkejfjcchlnpaaGreat
