/-
  PlSym, packed: what the claim needs of them.
-/
import Derived.Test.YtcacicgkebcdkaaPe09
set_option linter.unusedSimpArgs false
set_option linter.unusedVariables false
namespace Go.Ox.Stab
open Go.Sort
variable {α : Type} [Inhabited α] {lt : α → α → Bool}
theorem rot_up {a k : Nat} {d D : Array α} (hk : a ≤ k) (hs : k + 1 < d.size) (hz : d.size = D.size) (h : ∀ t, d[t]! = rotAt a (a + 1) (k + 1) D t) (t : Nat) : (swp d k (k + 1))[t]! = rotAt a (a + 1) (k + 2) D t := by
  rw [swp_get d (by omega) (by omega), h, h, h]
  unfold rotAt
  repeat' split
  all_goals first | rfl | exact getAt (by omega) | (exfalso; omega)
theorem rot_down {m k : Nat} {d D : Array α} (hk : k + 1 ≤ m) (hs : m < d.size) (h : ∀ t, d[t]! = rotAt (k + 1) m (m + 1) D t) (t : Nat) : (swp d (k + 1) k)[t]! = rotAt k m (m + 1) D t := by
  rw [swp_get d (by omega) (by omega), h, h, h]
  unfold rotAt
  repeat' split
  all_goals first | rfl | exact getAt (by omega) | (exfalso; omega)
theorem SM.one_left (hO : SWO lt) {a b i : Nat} {d d1 : Array α} (hs : b ≤ d.size) (h1 : a + 1 ≤ i) (h2 : i ≤ b) (hQ : i = a + 1 ∨ lt d[i - 1]! d[a]! = true) (hP : i = b ∨ lt d[i]! d[a]! = false)
    (hd : ∀ k, d1[k]! = rotAt a (a + 1) i d k) (hp : PermIn a b d d1) : SM lt a (a + 1) b d d1 := by
  refine SM.join (mid := i - 1) (st := a) (en := i) (d2 := d1) hO hs (Nat.le_refl _) (by omega) h1 h2 (by omega) (.inl rfl) (hQ.elim (fun h => .inr (.inl h)) fun h => .inr (.inr h)) hd hp (SM.left d1 a (i - 1)) (SM.adj hO ?_)
  rcases hP with h | h
  · exact .inr (.inl (by omega))
  · refine .inr (.inr ?_)
    have e1 : d1[i]! = d[i]! := by rw [hd]; unfold rotAt; rw [if_neg (by omega), if_neg (by omega)]
    have e2 : d1[i - 1]! = d[a]! := by
      rw [hd]; unfold rotAt; rw [if_neg (by omega), if_pos (by omega)]; exact getAt (by omega)
    rw [e1, e2]; exact h
theorem SM.one_right (hO : SWO lt) {a m i : Nat} {d d1 : Array α} (hs : m + 1 ≤ d.size) (h1 : a ≤ i) (h2 : i ≤ m) (hP : i = a ∨ lt d[m]! d[i - 1]! = false) (hQ : i = m ∨ lt d[m]! d[i]! = true)
    (hd : ∀ k, d1[k]! = rotAt i m (m + 1) d k) (hp : PermIn a (m + 1) d d1) : SM lt a m (m + 1) d d1 := by
  refine SM.join (mid := i + 1) (st := i) (en := m + 1) (d2 := d1) hO hs h1 h2 (by omega) (Nat.le_refl _) (by omega) (.inr (.inl rfl)) (hQ.elim .inl fun h => .inr (.inr h)) hd hp (SM.adj hO ?_) (SM.right d1 (i + 1) (m + 1))
  by_cases hi : i ≤ a
  · exact .inl hi
  · rcases hP with h | h
    · omega
    · refine .inr (.inr ?_)
      have e1 : d1[i]! = d[m]! := by rw [hd]; unfold rotAt; rw [if_pos (by omega)]; exact getAt (by omega)
      have e2 : d1[i - 1]! = d[i - 1]! := by rw [hd]; unfold rotAt; rw [if_neg (by omega), if_neg (by omega)]
      rw [e1, e2]; exact h
end Go.Ox.Stab
namespace Go.Proofs.Ytcacicgkebcdkaa
open Go.RowKit Go.Ox Go.Shelf Go.Sort
abbrev ltA : Pl.Ar → Pl.Ar → Bool := Go.Proofs.ltOf Pl.cmpA
theorem cmp_lex (a b : Mom.M) : (Mom.cmp a b < 0 ↔ Mom.lt a b) ∧ (Mom.cmp a b = 0 ↔ a = b) := by
  obtain ⟨a1, a2⟩ := a
  obtain ⟨b1, b2⟩ := b
  unfold Mom.cmp Mom.lt
  simp only [Prod.mk.injEq]
  constructor <;> · repeat' split
                    all_goals omega
theorem ltA_is (x y : Pl.Ar) : ltA x y = true ↔ (Mom.lt x.1.1 y.1.1 ∨ (x.1.1 = y.1.1 ∧ Mom.lt x.1.2 y.1.2)) := by
  unfold ltA Go.Proofs.ltOf Pl.cmpA
  rw [decide_eq_true_eq]
  obtain ⟨h1, h2⟩ := cmp_lex x.1.1 y.1.1
  obtain ⟨h3, h4⟩ := cmp_lex x.1.2 y.1.2
  by_cases h : Mom.cmp x.1.1 y.1.1 = 0
  · rw [if_neg (by simpa using h), h3]
    have e := h2.1 h
    constructor
    · intro q; exact .inr ⟨e, q⟩
    · rintro (q | q)
      · rw [← h1, h] at q; omega
      · exact q.2
  · rw [if_pos h, h1]
    constructor
    · intro q; exact .inl q
    · rintro (q | q)
      · exact q
      · exact absurd (h2.2 q.1) h
theorem swoA : SWO ltA where
  irrefl x := by
    rw [Bool.eq_false_iff]; intro h; rw [ltA_is] at h; unfold Mom.lt at h; omega
  trans x y z h1 h2 := by
    rw [ltA_is] at *
    obtain ⟨⟨⟨x1, x2⟩, x3, x4⟩, x5⟩ := x
    obtain ⟨⟨⟨y1, y2⟩, y3, y4⟩, y5⟩ := y
    obtain ⟨⟨⟨z1, z2⟩, z3, z4⟩, z5⟩ := z
    unfold Mom.lt at *
    simp only [Prod.mk.injEq] at *
    omega
  ntrans x y z h1 h2 := by
    rw [Bool.eq_false_iff, ne_eq, ltA_is] at *
    obtain ⟨⟨⟨x1, x2⟩, x3, x4⟩, x5⟩ := x
    obtain ⟨⟨⟨y1, y2⟩, y3, y4⟩, y5⟩ := y
    obtain ⟨⟨⟨z1, z2⟩, z3, z4⟩, z5⟩ := z
    unfold Mom.lt at *
    simp only [Prod.mk.injEq] at *
    omega
theorem egA : ∀ args w, (callFunc 32 args).run Try.prog w = .ok (.enter 32 args) w := enters_of Try.func32 (by kernel_rfl) rfl
section
variable {w0 : World} {blk off : Nat} {d0 : Array Pl.Ar}
theorem cmp_facts (R : RowK encA.enc 6 w0 blk off d0) (HC : Go.Proofs.CmpLays Try.prog 32 #[] encA.enc 6 Pl.cmpA blk off d0.size w0) {D : Array Pl.Ar} {W : World} (S : SWK encA.enc 6 w0 blk off D W) (hs : D.size = d0.size) (x y : Nat) (hx : x < D.size) (hy : y < D.size) :
    ∃ (kk : Nat) (cA cB : List Value), kk = 6 ∧
      (∀ n os, Sem.run Try.prog (loadCellsFrom ⟨blk, off + x * 6, none⟩ 0 kk #[]) (grow (W.drewN n) os) = .ok cA.toArray (grow (W.drewN n) os)) ∧
      (∀ n os, Sem.run Try.prog (loadCellsFrom ⟨blk, off + y * 6, none⟩ 0 kk #[]) (grow (W.drewN n) os) = .ok cB.toArray (grow (W.drewN n) os)) ∧
      (∀ n os, Calls Try.prog 32 (#[.agg cA.toArray, .agg cB.toArray] ++ #[]) (grow (W.drewN n) os) fun e w' => e = .returned (.int .i64 (Pl.cmpA D[x]! D[y]!)) ∧ ∃ q os', w' = grow ((grow (W.drewN n) os).drewN q) os') :=
  ⟨6, encA.enc D[x]!, encA.enc D[y]!, rfl, fun n os => S.ld R hs _ x hx n os, fun n os => S.ld R hs _ y hy n os, fun n os => S.cmp HC hs _ _ n os⟩
abbrev SymPost (w0 : World) (blk off a m b : Nat) (D : Array Pl.Ar) (e : Ending) (w' : World) : Prop := e = .returned (.tuple #[]) ∧ ∃ D', SWK encA.enc 6 w0 blk off D' w' ∧ Stab.SM ltA a m b D D'
set_option maxHeartbeats 8000000 in
set_option maxRecDepth 1000000 in
theorem sym_left (R : RowK encA.enc 6 w0 blk off d0) (HC : Go.Proofs.CmpLays Try.prog 32 #[] encA.enc 6 Pl.cmpA blk off d0.size w0) (cap a m b : Nat) (D : Array Pl.Ar) (W : World) (S : SWK encA.enc 6 w0 blk off D W) (hs : D.size = d0.size) (h1 : a < m) (h2 : m < b) (h3 : b ≤ D.size) (hsz : D.size < 1000000000) (hm : m = a + 1) :
    Calls Try.prog 75 #[.slice (some ⟨blk, off, none⟩) D.size cap, .int .i64 a, .int .i64 m, .int .i64 b, .func (.func 32) #[] #[]] W (SymPost w0 blk off a m b D) := by
  have HS := Lib.hid S
  have HRR := Lib.hid R
  have HCM := Lib.hid HC
  have HB := Lib.hid (show D.size = d0.size ∧ a < m ∧ m < b ∧ b ≤ D.size ∧ D.size < 1000000000 from ⟨hs, h1, h2, h3, hsz⟩)
  have e1 : ((m : Int) - (a : Int)) = 1 := by omega
  have HMA := Lib.hid hm
  clear S R HC hs h1 h2 h3 hsz hm
  go_enter Try.func75, Try.ntmps75
  go_wp2
  go_loopg [10, 11] (b - m) (fun g vi vj wr => ∃ i j : Nat, vi = .int .i64 (i : Int) ∧ vj = .int .i64 (j : Int) ∧ m ≤ i ∧ i ≤ j ∧ j ≤ b ∧ j - i ≤ g ∧ (i = m ∨ ltA D[i - 1]! D[a]! = true) ∧ (j = b ∨ ltA D[j]! D[a]! = false) ∧ SWK encA.enc 6 w0 blk off D wr)
  case atStart => exact ⟨m, b, rfl, rfl, Nat.le_refl _, by have := HB.out; omega, Nat.le_refl _, by omega, .inl rfl, .inl rfl, HS.out⟩
  case round =>
    obtain ⟨i, j, rfl, rfl, hi, hij, hj, hg, hq, hp, hw⟩ := hrel
    have HI := Lib.hid (show m ≤ i ∧ i ≤ j ∧ j ≤ b ∧ j - i ≤ gk from ⟨hi, hij, hj, hg⟩)
    have HQ := Lib.hid hq
    have HP := Lib.hid hp
    have HW := Lib.hid hw
    clear hi hij hj hg hq hp hw
    by_cases hlt : i < j
    · have g1 : (i : Int) < (j : Int) := by omega
      obtain ⟨h, hh⟩ : ∃ h, h = (i + j) / 2 := ⟨_, rfl⟩
      have HX9 := Lib.hid (show i ≤ h ∧ h < j ∧ h < D.size ∧ j ≤ b from by have h1 := HI.out; have h2 := HB.out; omega)
      have hx9 := HX9.out
      have hb9 := HB.out
      obtain ⟨z, hz⟩ : ∃ z, z = i + j := ⟨_, rfl⟩
      have q5 : ((i : Int) + (j : Int)) = (z : Int) := by omega
      have q6 : IntKind.i64.wrap (z : Int) = (z : Int) := IntWalk.i64_in _ (by omega)
      have q7 : (z : Int) / 2 = (h : Int) := by omega
      have q8 : IntKind.u64.wrap (z : Int) = (z : Int) := by rw [IntKind.wrap_u64]; omega
      have q9 : IntKind.i64.wrap (h : Int) = (h : Int) := IntWalk.i64_in _ (by omega)
      have z1 : (h : Int) < (D.size : Int) := by omega
      have z2 : (a : Int) < (D.size : Int) := by omega
      have hi9 : (h : Int) + 1 ≤ 1000000000 := by omega
      have HLT := Lib.hid hlt
      clear hh hz hx9 hb9 hlt e1
      obtain ⟨kk, cA, cB, hkk, l1, l2, hcg⟩ := cmp_facts HRR.out HCM.out HW.out HB.out.1 h a (by have h1 := HX9.out; have h2 := HB.out; omega) (by have h1 := HX9.out; have h2 := HB.out; omega)
      obtain ⟨cv, hcv⟩ : ∃ cc, cc = Pl.cmpA D[h]! D[a]! := ⟨_, rfl⟩
      rw [← hcv] at hcg
      have HCV := Lib.hid hcv
      have mixed := mixedA
      have eg := egA
      clear hcv
      go_upto_region 5 with fail
      obtain ⟨T, hT⟩ : ∃ T, T = 39 := ⟨_, rfl⟩
      rw [← hT]
      have aT : ∀ w, (isAgg T).run Try.prog w = .ok true w := by rw [hT]; exact Try.isAgg39
      have zT : ∀ w, (Go.sizeOf T).run Try.prog w = .ok kk w := by rw [hT, hkk]; exact Try.sizeOf39
      clear hT hkk
      by_cases hc : cv < 0
      · have HL := Lib.hid (show ltA D[h]! D[a]! = true from by rw [HCV.out] at hc; exact decide_eq_true hc)
        go_wp2_with fail
        go_quiet_grown (first | (go_at_fn 32; refine Calls.grown_of (hcg _ _)))
        have HW2 := Lib.hid (HW.out.grown nq osq)
        have hd : decide (cv < 0) = true := decide_eq_true hc
        clear q5 q6 q7 q8 q9 l1 l2 hcg
        generalize grow (wr.drewN nq) osq = w9 at *
        go_wp2
        go_roundg (j - (h + 1))
        case measure => have h1 := HX9.out; have h2 := HI.out; omega
        case rel => exact ⟨h + 1, j, by first | rfl | go_num, rfl, by have h1 := HX9.out; have h2 := HI.out; omega, by have h1 := HX9.out; omega, HX9.out.2.2.2, Nat.le_refl _, .inr HL.out, HP.out, HW2.out⟩
      · have HL := Lib.hid (show ltA D[h]! D[a]! = false from by rw [HCV.out] at hc; exact decide_eq_false hc)
        have hd : decide (cv < 0) = false := decide_eq_false hc
        clear hc hi9
        go_wp2_with fail
        go_quiet_grown (first | (go_at_fn 32; refine Calls.grown_of (hcg _ _)))
        have HW2 := Lib.hid (HW.out.grown nq osq)
        clear q5 q6 q7 q8 q9 l1 l2 hcg
        generalize grow (wr.drewN nq) osq = w9 at *
        go_wp2
        go_roundg (h - i)
        case measure => have h1 := HX9.out; have h2 := HI.out; omega
        case rel => exact ⟨i, h, rfl, rfl, HI.out.1, HX9.out.1, by have h1 := HX9.out; omega, Nat.le_refl _, HQ.out, .inr HL.out, HW2.out⟩
    · have g1 : ¬ (i : Int) < (j : Int) := by omega
      obtain rfl : i = j := by have := HI.out; omega
      obtain ⟨ii, hii⟩ : ∃ ii, i = ii + 1 := ⟨i - 1, by have h1 := HI.out; have h2 := HB.out; omega⟩
      have q5 : ((i : Int) - 1) = (ii : Int) := by omega
      have q6 : IntKind.i64.wrap (ii : Int) = (ii : Int) := IntWalk.i64_in _ (by have h1 := HI.out; have h2 := HB.out; omega)
      have HII := Lib.hid hii
      clear hlt hii e1
      go_wp2
      go_loopg [13] (i - 1 - a) (fun g vk wr => ∃ (k : Nat) (D' : Array Pl.Ar), vk = .int .i64 (k : Int) ∧ a ≤ k ∧ k ≤ ii ∧ ii - k ≤ g ∧ PermIn a b D D' ∧ (∀ t, D'[t]! = Stab.rotAt a (a + 1) (k + 1) D t) ∧ SWK encA.enc 6 w0 blk off D' wr)
      case atStart => exact ⟨a, D, rfl, Nat.le_refl _, by have h1 := HI.out; have h2 := HMA.out; have h3 := HII.out; omega, by have h3 := HII.out; omega, permIn_refl D a b, fun t => (Stab.rotAt_same (.inr rfl) (by omega) (by omega) t).symm, HW.out⟩
      case round =>
        obtain ⟨k, D', rfl, hk, hki, hg, hpm, hrt, hw2⟩ := hrel
        have HK := Lib.hid (show a ≤ k ∧ k ≤ ii ∧ ii - k ≤ gk from ⟨hk, hki, hg⟩)
        have HPM := Lib.hid hpm
        have HRT := Lib.hid hrt
        have HW2 := Lib.hid hw2
        have hsz := hpm.1
        clear hk hki hg hpm hrt hw2
        by_cases hlt : k < ii
        · have g2 : (k : Int) < (ii : Int) := by omega
          obtain ⟨y, hy⟩ : ∃ y, y = k + 1 := ⟨_, rfl⟩
          have HX9 := Lib.hid (show k < D.size ∧ y < D.size ∧ y ≤ ii ∧ y < b from by have h1 := HI.out; have h2 := HB.out; have h3 := HII.out; omega)
          have hx9 := HX9.out
          have hb9 := HB.out
          have u5 : ((k : Int) + 1) = (y : Int) := by omega
          have u6 : IntKind.i64.wrap (y : Int) = (y : Int) := IntWalk.i64_in _ (by omega)
          have z1 : (k : Int) < (D.size : Int) := by omega
          have z2 : (y : Int) < (D.size : Int) := by omega
          have HYY := Lib.hid hy
          have HPM2 := Lib.hid (permIn_trans _ _ _ a b HPM.out (swp_permIn D' a b k y (by have := HK.out; omega) (by omega) (by have := HK.out; omega) (by omega) (by omega)))
          have HRT2 := Lib.hid (show ∀ t, (swp D' k y)[t]! = Stab.rotAt a (a + 1) (y + 1) D t from fun t => by rw [hy]; exact Stab.rot_up HK.out.1 (by omega) hsz HRT.out t)
          have HSZ := Lib.hid hsz
          clear hlt hy hx9 hb9 hsz
          obtain ⟨kk, cA, cB, hkk, lA, lB, l1, l2, s1, s2, sw⟩ := swap_facts HRR.out HW2.out (HSZ.out.trans HB.out.1) k y (by have h1 := HX9.out; have h2 := HB.out; have h3 := HSZ.out; omega) (by have h1 := HX9.out; have h2 := HB.out; have h3 := HSZ.out; omega)
          have HSW := Lib.hid sw
          have mixed := mixedA
          clear sw
          go_upto_region 11 with fail
          obtain ⟨T, hT⟩ : ∃ T, T = 39 := ⟨_, rfl⟩
          rw [← hT]
          have aT : ∀ w, (isAgg T).run Try.prog w = .ok true w := by rw [hT]; exact Try.isAgg39
          have zT : ∀ w, (Go.sizeOf T).run Try.prog w = .ok kk w := by rw [hT, hkk]; exact Try.sizeOf39
          clear hT hkk
          go_big_region_o
          all_goals go_wp2
          go_roundg (ii - y)
          case measure => have h1 := HK.out; have h2 := HX9.out; have h3 := HYY.out; omega
          case rel => exact ⟨y, _, by first | rfl | go_num, by have h1 := HK.out; have h3 := HYY.out; omega, HX9.out.2.2.1, Nat.le_refl _, HPM2.out, HRT2.out, HSW.out⟩
        · have g2 : ¬ (k : Int) < (ii : Int) := by omega
          obtain rfl : k = ii := by have := HK.out; omega
          have HSM := Lib.hid (show Stab.SM ltA a m b D D' from by
            have h1 := HI.out; have h2 := HB.out; have h3 := HMA.out; have h4 := HII.out
            subst h3
            exact Stab.SM.one_left (i := i) swoA h2.2.2.2.1 (by omega) h1.2.2.1 (HQ.out) (HP.out) (fun t => by rw [HRT.out, ← h4]) HPM.out)
          clear hlt hsz
          go_wp2
          go_end0
          exact ⟨rfl, D', HW2.out, HSM.out⟩
set_option maxHeartbeats 8000000 in
set_option maxRecDepth 1000000 in
theorem sym_right (R : RowK encA.enc 6 w0 blk off d0) (HC : Go.Proofs.CmpLays Try.prog 32 #[] encA.enc 6 Pl.cmpA blk off d0.size w0) (cap a m b : Nat) (D : Array Pl.Ar) (W : World) (S : SWK encA.enc 6 w0 blk off D W) (hs : D.size = d0.size) (h1 : a < m) (h2 : m < b) (h3 : b ≤ D.size) (hsz : D.size < 1000000000) (hm : b = m + 1) (hm1 : m ≠ a + 1) :
    Calls Try.prog 75 #[.slice (some ⟨blk, off, none⟩) D.size cap, .int .i64 a, .int .i64 m, .int .i64 b, .func (.func 32) #[] #[]] W (SymPost w0 blk off a m b D) := by
  have HS := Lib.hid S
  have HRR := Lib.hid R
  have HCM := Lib.hid HC
  have HB := Lib.hid (show D.size = d0.size ∧ a < m ∧ m < b ∧ b ≤ D.size ∧ D.size < 1000000000 from ⟨hs, h1, h2, h3, hsz⟩)
  obtain ⟨ma, hma⟩ : ∃ x, x = m - a := ⟨_, rfl⟩
  have e1 : ((m : Int) - (a : Int)) = (ma : Int) := by omega
  have e2 : IntKind.i64.wrap (ma : Int) = (ma : Int) := IntWalk.i64_in _ (by omega)
  have e3 : ((ma : Int) == 1) = false := beq_eq_false_iff_ne.2 (by omega)
  have e4 : ¬ (ma : Int) = 1 := by omega
  have e5 : ((b : Int) - (m : Int)) = 1 := by omega
  have HMB := Lib.hid hm
  clear S R HC hs h1 h2 h3 hsz hm hm1 hma
  go_enter Try.func75, Try.ntmps75
  go_wp2
  go_loopg [14, 15] (m - a) (fun g vi vj wr => ∃ i j : Nat, vi = .int .i64 (i : Int) ∧ vj = .int .i64 (j : Int) ∧ a ≤ i ∧ i ≤ j ∧ j ≤ m ∧ j - i ≤ g ∧ (i = a ∨ ltA D[m]! D[i - 1]! = false) ∧ (j = m ∨ ltA D[m]! D[j]! = true) ∧ SWK encA.enc 6 w0 blk off D wr)
  case atStart => exact ⟨a, m, rfl, rfl, Nat.le_refl _, by have := HB.out; omega, Nat.le_refl _, by omega, .inl rfl, .inl rfl, HS.out⟩
  case round =>
    obtain ⟨i, j, rfl, rfl, hi, hij, hj, hg, hq, hp, hw⟩ := hrel
    have HI := Lib.hid (show a ≤ i ∧ i ≤ j ∧ j ≤ m ∧ j - i ≤ gk from ⟨hi, hij, hj, hg⟩)
    have HQ := Lib.hid hq
    have HP := Lib.hid hp
    have HW := Lib.hid hw
    clear hi hij hj hg hq hp hw e1 e2 e3 e4 e5
    by_cases hlt : i < j
    · have g1 : (i : Int) < (j : Int) := by omega
      obtain ⟨h, hh⟩ : ∃ h, h = (i + j) / 2 := ⟨_, rfl⟩
      have HX9 := Lib.hid (show i ≤ h ∧ h < j ∧ h < D.size ∧ j ≤ m ∧ m < D.size from by have h1 := HI.out; have h2 := HB.out; omega)
      have hx9 := HX9.out
      have hb9 := HB.out
      obtain ⟨z, hz⟩ : ∃ z, z = i + j := ⟨_, rfl⟩
      have q5 : ((i : Int) + (j : Int)) = (z : Int) := by omega
      have q6 : IntKind.i64.wrap (z : Int) = (z : Int) := IntWalk.i64_in _ (by omega)
      have q7 : (z : Int) / 2 = (h : Int) := by omega
      have q8 : IntKind.u64.wrap (z : Int) = (z : Int) := by rw [IntKind.wrap_u64]; omega
      have q9 : IntKind.i64.wrap (h : Int) = (h : Int) := IntWalk.i64_in _ (by omega)
      have z1 : (h : Int) < (D.size : Int) := by omega
      have z2 : (m : Int) < (D.size : Int) := by omega
      have hi9 : (h : Int) + 1 ≤ 1000000000 := by omega
      clear hh hz hx9 hb9 hlt
      obtain ⟨kk, cA, cB, hkk, l1, l2, hcg⟩ := cmp_facts HRR.out HCM.out HW.out HB.out.1 m h (by have h1 := HX9.out; have h2 := HB.out; omega) (by have h1 := HX9.out; have h2 := HB.out; omega)
      obtain ⟨cv, hcv⟩ : ∃ cc, cc = Pl.cmpA D[m]! D[h]! := ⟨_, rfl⟩
      rw [← hcv] at hcg
      have HCV := Lib.hid hcv
      have mixed := mixedA
      have eg := egA
      clear hcv
      go_upto_region 17 with fail
      obtain ⟨T, hT⟩ : ∃ T, T = 39 := ⟨_, rfl⟩
      rw [← hT]
      have aT : ∀ w, (isAgg T).run Try.prog w = .ok true w := by rw [hT]; exact Try.isAgg39
      have zT : ∀ w, (Go.sizeOf T).run Try.prog w = .ok kk w := by rw [hT, hkk]; exact Try.sizeOf39
      clear hT hkk
      by_cases hc : cv < 0
      · have HL := Lib.hid (show ltA D[m]! D[h]! = true from by rw [HCV.out] at hc; exact decide_eq_true hc)
        have hd : decide (cv < 0) = true := decide_eq_true hc
        clear hi9
        go_wp2_with fail
        go_quiet_grown (first | (go_at_fn 32; refine Calls.grown_of (hcg _ _)))
        have HW2 := Lib.hid (HW.out.grown nq osq)
        clear q5 q6 q7 q8 q9 l1 l2 hcg
        generalize grow (wr.drewN nq) osq = w9 at *
        go_wp2
        go_roundg (h - i)
        case measure => have h1 := HX9.out; have h2 := HI.out; omega
        case rel => exact ⟨i, h, rfl, rfl, HI.out.1, HX9.out.1, by have h1 := HX9.out; omega, Nat.le_refl _, HQ.out, .inr HL.out, HW2.out⟩
      · have HL := Lib.hid (show ltA D[m]! D[h]! = false from by rw [HCV.out] at hc; exact decide_eq_false hc)
        have hd : decide (cv < 0) = false := decide_eq_false hc
        clear hc
        go_wp2_with fail
        go_quiet_grown (first | (go_at_fn 32; refine Calls.grown_of (hcg _ _)))
        have HW2 := Lib.hid (HW.out.grown nq osq)
        clear q5 q6 q7 q8 q9 l1 l2 hcg
        generalize grow (wr.drewN nq) osq = w9 at *
        go_wp2
        go_roundg (j - (h + 1))
        case measure => have h1 := HX9.out; have h2 := HI.out; omega
        case rel => exact ⟨h + 1, j, by first | rfl | go_num, rfl, by have h1 := HX9.out; have h2 := HI.out; omega, by have h1 := HX9.out; omega, HX9.out.2.2.2.1, Nat.le_refl _, .inr HL.out, HP.out, HW2.out⟩
    · have g1 : ¬ (i : Int) < (j : Int) := by omega
      obtain rfl : i = j := by have := HI.out; omega
      clear hlt
      go_wp2
      go_loopg [17] (m - i) (fun g vk wr => ∃ (k : Nat) (D' : Array Pl.Ar), vk = .int .i64 (k : Int) ∧ i ≤ k ∧ k ≤ m ∧ k - i ≤ g ∧ PermIn a b D D' ∧ (∀ t, D'[t]! = Stab.rotAt k m (m + 1) D t) ∧ SWK encA.enc 6 w0 blk off D' wr)
      case atStart => exact ⟨m, D, rfl, HI.out.2.2.1, Nat.le_refl _, Nat.le_refl _, permIn_refl D a b, fun t => (Stab.rotAt_same (.inl rfl) (by omega) (by omega) t).symm, HW.out⟩
      case round =>
        obtain ⟨k, D', rfl, hk, hki, hg, hpm, hrt, hw2⟩ := hrel
        have HK := Lib.hid (show i ≤ k ∧ k ≤ m ∧ k - i ≤ gk from ⟨hk, hki, hg⟩)
        have HPM := Lib.hid hpm
        have HRT := Lib.hid hrt
        have HW2 := Lib.hid hw2
        have hsz := hpm.1
        clear hk hki hg hpm hrt hw2
        by_cases hlt : i < k
        · obtain ⟨y, rfl⟩ : ∃ y, k = y + 1 := ⟨k - 1, by omega⟩
          obtain ⟨k, hk⟩ : ∃ k, k = y + 1 := ⟨_, rfl⟩
          rw [← hk] at HK HRT ⊢
          have g2 : (i : Int) < (k : Int) := by omega
          have HX9 := Lib.hid (show k < D.size ∧ y < D.size ∧ i ≤ y ∧ k = y + 1 ∧ m < D.size from by have h1 := HI.out; have h2 := HB.out; have h3 := HK.out; omega)
          have hx9 := HX9.out
          have hb9 := HB.out
          have u5 : ((k : Int) - 1) = (y : Int) := by omega
          have u6 : IntKind.i64.wrap (y : Int) = (y : Int) := IntWalk.i64_in _ (by omega)
          have z1 : (k : Int) < (D.size : Int) := by omega
          have z2 : (y : Int) < (D.size : Int) := by omega
          have HPM2 := Lib.hid (permIn_trans _ _ _ a b HPM.out (swp_permIn D' a b k y (by have := HK.out; have := HI.out; omega) (by have := HK.out; omega) (by have := HI.out; omega) (by have := HK.out; omega) (by omega)))
          have HRT2 := Lib.hid (show ∀ t, (swp D' k y)[t]! = Stab.rotAt y m (m + 1) D t from fun t => by rw [hk]; exact Stab.rot_down (by have := HK.out; omega) (by omega) (by rw [← hk]; exact HRT.out) t)
          have HSZ := Lib.hid hsz
          clear hlt hk hx9 hb9 hsz
          obtain ⟨kk, cA, cB, hkk, lA, lB, l1, l2, s1, s2, sw⟩ := swap_facts HRR.out HW2.out (HSZ.out.trans HB.out.1) k y (by have h1 := HX9.out; have h2 := HB.out; have h3 := HSZ.out; omega) (by have h1 := HX9.out; have h2 := HB.out; have h3 := HSZ.out; omega)
          have HSW := Lib.hid sw
          have mixed := mixedA
          clear sw
          go_upto_region 23 with fail
          obtain ⟨T, hT⟩ : ∃ T, T = 39 := ⟨_, rfl⟩
          rw [← hT]
          have aT : ∀ w, (isAgg T).run Try.prog w = .ok true w := by rw [hT]; exact Try.isAgg39
          have zT : ∀ w, (Go.sizeOf T).run Try.prog w = .ok kk w := by rw [hT, hkk]; exact Try.sizeOf39
          clear hT hkk
          go_big_region_o
          all_goals go_wp2
          go_roundg (y - i)
          case measure => have h1 := HK.out; have h2 := HX9.out; omega
          case rel => exact ⟨y, _, by first | rfl | go_num, HX9.out.2.2.1, by have h1 := HK.out; have h2 := HX9.out; omega, Nat.le_refl _, HPM2.out, HRT2.out, HSW.out⟩
        · have g2 : ¬ (i : Int) < (k : Int) := by omega
          obtain rfl : k = i := by have := HK.out; omega
          have HSM := Lib.hid (show Stab.SM ltA a m b D D' from by
            have h1 := HI.out; have h2 := HB.out; have h3 := HMB.out
            subst h3
            exact Stab.SM.one_right (i := k) swoA h2.2.2.2.1 h1.1 h1.2.2.1 HQ.out HP.out HRT.out HPM.out)
          clear hlt hsz
          go_wp2
          go_end0
          exact ⟨rfl, D', HW2.out, HSM.out⟩
end
end Go.Proofs.Ytcacicgkebcdkaa
