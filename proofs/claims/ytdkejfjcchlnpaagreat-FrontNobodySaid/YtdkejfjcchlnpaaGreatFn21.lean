/-
  PlSym2, packed: what the claim needs of them.
-/
import Derived.Test.YtdkejfjcchlnpaaGreatFn20
set_option maxHeartbeats 40000000
open Go.Lib (hid)
set_option linter.unusedSimpArgs false
set_option linter.unusedVariables false
namespace Go.Proofs.YtdkejfjcchlnpaaGreat
open Go.RowKit Go.Ox Go.Shelf Go.Sort
section
variable {w0 : World} {blk off : Nat} {d0 : Array Pl.Ar}
structure LoHi (a m b mid lo hi : Nat) : Prop where
 al : a ≤ lo
 lh : lo ≤ hi
 hm : hi ≤ m
 hd : hi ≤ mid
 bd : mid + m ≤ lo + b
 e1 : lo = a ∨ mid + m - lo = b
 e2 : hi = m ∨ mid + m - hi = m
set_option maxRecDepth 1000000 in
theorem b3D (R : RowK encA.enc 6 w0 blk off d0) (HC : Go.Proofs.CmpLays Tryz.prog 171 #[] encA.enc 6 Pl.a6M blk off d0.size w0) (cap a m b : Nat) (D : Array Pl.Ar) (W : World) (S : SWK encA.enc 6 w0 blk off D W) (hs : D.size = d0.size) (h1 : a < m) (h2 : m < b) (h3 : b ≤ D.size) (hsz : D.size < 1000000000) (hm1 : m ≠ a + 1) (hb1 : b ≠ m + 1)
 (ih : ∀ (a' m' b' : Nat) (D' : Array Pl.Ar) (W' : World), SWK encA.enc 6 w0 blk off D' W' → D'.size = D.size → a' < m' → m' < b' → b' ≤ D.size → b' - a' < b - a → Calls Tryz.prog 193 #[.slice (some ⟨blk, off, none⟩) D.size cap, .int .i64 a', .int .i64 m', .int .i64 b', .func (.func 171) #[] #[]] W' (a4g w0 blk off a' m' b' D')) :
 Calls Tryz.prog 193 #[.slice (some ⟨blk, off, none⟩) D.size cap, .int .i64 a, .int .i64 m, .int .i64 b, .func (.func 171) #[] #[]] W (a4g w0 blk off a m b D) := by
 have HS := hid S;have HRR := hid R;have HCM := hid HC;have HB := hid (show D.size = d0.size ∧ a < m ∧ m < b ∧ b ≤ D.size ∧ D.size < 1000000000 from ⟨hs, h1, h2, h3, hsz⟩);have HIH := hid ih;obtain ⟨ma, hma⟩ : ∃ x, x = m - a := ⟨_, rfl⟩;obtain ⟨mb, hmb⟩ : ∃ x, x = b - m := ⟨_, rfl⟩;obtain ⟨z0, hz0⟩ : ∃ x, x = a + b := ⟨_, rfl⟩;obtain ⟨mid, hmid⟩ : ∃ x, x = (a + b) / 2 := ⟨_, rfl⟩;obtain ⟨n, hn⟩ : ∃ x, x = mid + m := ⟨_, rfl⟩;have e1 : ((m : Int) - (a : Int)) = (ma : Int) := by omega
 have e2 : IntKind.i64.wrap (ma : Int) = (ma : Int) := IntWalk.i64_in _ (by omega)
 have e3 : ((ma : Int) == 1) = false := beq_eq_false_iff_ne.2 (by omega)
 have e4 : ¬ (ma : Int) = 1 := by omega
 have e5 : ((b : Int) - (m : Int)) = (mb : Int) := by omega
 have e6 : IntKind.i64.wrap (mb : Int) = (mb : Int) := IntWalk.i64_in _ (by omega)
 have e7 : ((mb : Int) == 1) = false := beq_eq_false_iff_ne.2 (by omega)
 have e8 : ¬ (mb : Int) = 1 := by omega
 have q5 : ((a : Int) + (b : Int)) = (z0 : Int) := by omega
 have q6 : IntKind.i64.wrap (z0 : Int) = (z0 : Int) := IntWalk.i64_in _ (by omega)
 have q7 : (z0 : Int) / 2 = (mid : Int) := by omega
 have q8 : IntKind.u64.wrap (z0 : Int) = (z0 : Int) := by rw [IntKind.wrap_u64]; omega
 have q9 : IntKind.i64.wrap (mid : Int) = (mid : Int) := IntWalk.i64_in _ (by omega)
 have r1 : ((mid : Int) + (m : Int)) = (n : Int) := by omega
 have r2 : IntKind.i64.wrap (n : Int) = (n : Int) := IntWalk.i64_in _ (by omega)
 have HM := hid (show n = mid + m ∧ mid = (a + b) / 2 ∧ a + 2 ≤ m ∧ m + 2 ≤ b ∧ a < mid ∧ mid < b from by omega)
 clear S R HC hs h1 h2 h3 hsz hm1 hb1 hma hmb hz0 hmid hn ih
 go_enter Tryz.func193, Tryz.ntmps193
 go_upto_if 140 with fail
 clear e1 e2 e3 e4 e5 e6 e7 e8 q5 q6 q7 q8 q9 r1 r2
 go_cut [20, 21] (fun s20 s21 wx => ∃ lo hi : Nat, s20 = .int .i64 (lo : Int) ∧ s21 = .int .i64 (hi : Int) ∧ LoHi a m b mid lo hi ∧ wx = W)
 case first => as_aux_lemma =>
  by_cases hlt : mid < m
  · have g1 : (mid : Int) < (m : Int) := by omega
    obtain ⟨lo, hlo⟩ : ∃ x, x = n - b := ⟨_, rfl⟩;have hm9 := HM.o;have hb9 := HB.o;have u1 : ((n : Int) - (b : Int)) = (lo : Int) := by omega
    have u2 : IntKind.i64.wrap (lo : Int) = (lo : Int) := IntWalk.i64_in _ (by omega)
    have HL := hid (show LoHi a m b mid lo mid from ⟨by omega, by omega, by omega, Nat.le_refl _, by omega, .inr (by omega), .inr (by omega)⟩)
    clear hlt hlo hm9 hb9
    go_wp2
    go_meet
    exact ⟨lo, mid, rfl, rfl, HL.o, rfl⟩
  have g1 : ¬ (mid : Int) < (m : Int) := by omega
  have HL := hid (show LoHi a m b mid a m from ⟨Nat.le_refl _, by have := HB.o; omega, Nat.le_refl _, by omega, by have := HM.o; omega, .inl rfl, .inl rfl⟩)
  clear hlt
  go_wp2
  go_meet
  exact ⟨a, m, rfl, rfl, HL.o, rfl⟩
 case rest =>
 obtain ⟨lo, hi, rfl, rfl, hlh, hwx⟩ := hcut;subst hwx;have HLH := hid hlh;clear hlh;rename World => W1
 obtain ⟨p, hp⟩ : ∃ p, p = n - 1 := ⟨_, rfl⟩;have u1 : ((n : Int) - 1) = (p : Int) := by have := HM.o; omega
 have u2 : IntKind.i64.wrap (p : Int) = (p : Int) := IntWalk.i64_in _ (by have h1 := HM.o; have h2 := HB.o; omega)
 have HPN := hid hp;clear hp
 go_wp2
 clear u1 u2
 go_loopg [20, 21] (hi - lo) (fun g vi vj wr => ∃ s r : Nat, vi = .int .i64 (s : Int) ∧ vj = .int .i64 (r : Int) ∧ lo ≤ s ∧ s ≤ r ∧ r ≤ hi ∧ r - s ≤ g ∧ (s = lo ∨ ltA D[n - s]! D[s - 1]! = false) ∧ (r = hi ∨ ltA D[n - 1 - r]! D[r]! = true) ∧ SWK encA.enc 6 w0 blk off D wr)
 case atStart => exact ⟨lo, hi, rfl, rfl, Nat.le_refl _, HLH.o.lh, Nat.le_refl _, Nat.le_refl _, .inl rfl, .inl rfl, HS.o⟩
 case round =>
 obtain ⟨s, r, rfl, rfl, hi1, hij, hj, hg, hq, hp, hw⟩ := hrel;have HI := hid (show lo ≤ s ∧ s ≤ r ∧ r ≤ hi ∧ r - s ≤ gk from ⟨hi1, hij, hj, hg⟩);have HQ := hid hq;have HP := hid hp;have HW := hid hw;clear hi1 hij hj hg hq hp hw
 by_cases hlt : s < r
 · have g1 : (s : Int) < (r : Int) := by omega
   obtain ⟨c, hc⟩ : ∃ h, h = (s + r) / 2 := ⟨_, rfl⟩;obtain ⟨y, hy⟩ : ∃ y, y = p - c := ⟨_, rfl⟩;have HX9 := hid (show s ≤ c ∧ c < r ∧ r ≤ hi ∧ c < D.size ∧ y < D.size ∧ y = n - 1 - c ∧ y = n - (c + 1) from by have h1 := HI.o; have h2 := HB.o; have h3 := HLH.o.hm; have h4 := HLH.o.hd; have h5 := HLH.o.bd; have h6 := HM.o; have h7 := HPN.o; omega)
   have hx9 := HX9.o;have hb9 := HB.o;obtain ⟨z, hz⟩ : ∃ z, z = s + r := ⟨_, rfl⟩;have q5 : ((s : Int) + (r : Int)) = (z : Int) := by omega
   have q6 : IntKind.i64.wrap (z : Int) = (z : Int) := IntWalk.i64_in _ (by have h3 := HLH.o.hm; omega)
   have q7 : (z : Int) / 2 = (c : Int) := by omega
   have q8 : IntKind.u64.wrap (z : Int) = (z : Int) := by rw [IntKind.wrap_u64]; have h3 := HLH.o.hm; omega
   have q9 : IntKind.i64.wrap (c : Int) = (c : Int) := IntWalk.i64_in _ (by omega)
   have q1 : ((p : Int) - (c : Int)) = (y : Int) := by have h4 := HLH.o.hd; have h5 := HM.o; have h6 := HPN.o; omega
   have q2 : IntKind.i64.wrap (y : Int) = (y : Int) := IntWalk.i64_in _ (by omega)
   have z1 : (c : Int) < (D.size : Int) := by omega
   have z2 : (y : Int) < (D.size : Int) := by omega
   have hi9 : (c : Int) + 1 ≤ 1000000000 := by omega
   clear hc hz hy hx9 hb9 hlt;obtain ⟨kk, cA, cB, hkk, l1, l2, hcg⟩ := a4f HRR.o HCM.o HW.o HB.o.1 y c (by have h1 := HX9.o; have h2 := HB.o; omega) (by have h1 := HX9.o; have h2 := HB.o; omega)
   obtain ⟨cv, hcv⟩ : ∃ cc, cc = Pl.a6M D[y]! D[c]! := ⟨_, rfl⟩;rw [← hcv] at hcg;have HCV := hid hcv;have mixed := a3z;have eg := egA;clear hcv
   go_upto_region 35 with fail
   obtain ⟨T, hT⟩ : ∃ T, T = 144 := ⟨_, rfl⟩;rw [← hT];have aT : ∀ w, (isAgg T).run Tryz.prog w = .ok true w := by rw [hT]; exact Tryz.isAgg144
   have zT : ∀ w, (Go.sizeOf T).run Tryz.prog w = .ok kk w := by rw [hT, hkk]; exact Tryz.sizeOf144
   clear hT hkk
   by_cases hc : cv < 0
   · have HL := hid (show ltA D[y]! D[c]! = true from by rw [HCV.o] at hc; exact decide_eq_true hc)
     have hd : decide (cv < 0) = true := decide_eq_true hc;clear hi9
     go_wp2_with fail
     go_quiet_grown (first | (go_at_fn 171; refine Calls.grown_of (hcg _ _)))
     have HW2 := hid (HW.o.grown nq osq);clear q1 q2 q5 q6 q7 q8 q9 l1 l2 hcg;generalize grow (wr.drewN nq) osq = w9 at *
     go_wp2
     go_roundg (c - s)
     case measure => have h1 := HX9.o; have h2 := HI.o; omega
     case rel => exact ⟨s, c, rfl, rfl, HI.o.1, HX9.o.1, by have h1 := HX9.o; omega, Nat.le_refl _, HQ.o, .inr (by rw [← HX9.o.2.2.2.2.2.1]; exact HL.o), HW2.o⟩
   have HL := hid (show ltA D[y]! D[c]! = false from by rw [HCV.o] at hc; exact decide_eq_false hc)
   have hd : decide (cv < 0) = false := decide_eq_false hc;clear hc
   go_wp2_with fail
   go_quiet_grown (first | (go_at_fn 171; refine Calls.grown_of (hcg _ _)))
   have HW2 := hid (HW.o.grown nq osq);clear q1 q2 q5 q6 q7 q8 q9 l1 l2 hcg;generalize grow (wr.drewN nq) osq = w9 at *
   go_wp2
   go_roundg (r - (c + 1))
   case measure => have h1 := HX9.o; have h2 := HI.o; omega
   case rel => exact ⟨c + 1, r, by first | rfl | go_num, rfl, by have h1 := HX9.o; have h2 := HI.o; omega, by have h1 := HX9.o; omega, HX9.o.2.2.1, Nat.le_refl _, .inr (by rw [← HX9.o.2.2.2.2.2.2, Nat.add_sub_cancel]; exact HL.o), HP.o, HW2.o⟩
 have g1 : ¬ (s : Int) < (r : Int) := by omega
 obtain rfl : s = r := by have := HI.o; omega
 obtain ⟨en, hen⟩ : ∃ en, en = n - s := ⟨_, rfl⟩;have q1 : ((n : Int) - (s : Int)) = (en : Int) := by have h1 := HI.o; have h2 := HLH.o.hm; have h3 := HM.o; omega
 have q2 : IntKind.i64.wrap (en : Int) = (en : Int) := IntWalk.i64_in _ (by have h3 := HM.o; have h4 := HB.o; omega)
 have HE := hid (show a ≤ s ∧ s ≤ m ∧ m ≤ en ∧ en ≤ b ∧ s + en = mid + m ∧ s ≤ mid ∧ mid ≤ en ∧ (s = a ∨ en = b ∨ ltA D[en]! D[s - 1]! = false) ∧ (s = m ∨ en = m ∨ ltA D[en - 1]! D[s]! = true) from by
  have h1 := HI.o; have h2 := HLH.o; have h3 := HM.o;refine ⟨by have := h2.al; omega, by have := h2.hm; omega, by have := h2.hd; omega, by have := h2.bd; omega, by have := h2.hm; omega, by have := h2.hd; omega, by have := h2.hm; omega, ?_, ?_⟩
  · rcases HQ.o with q | q
    · rcases h2.e1 with e | e
      · exact .inl (by omega)
      exact .inr (.inl (by omega))
    rw [hen]; exact .inr (.inr q)
  rcases HP.o with q | q
  · rcases h2.e2 with e | e
    · exact .inl (by omega)
    exact .inr (.inl (by omega))
  rw [show en - 1 = n - 1 - s by omega]; exact .inr (.inr q))
 clear hen hlt HQ HP HI HLH
 go_upto_region 39 with fail
 clear q1 q2 g1
 go_cut [185] (fun s185 wx => s185 = .bool (decide (s < m) && decide (m < en)) ∧ wx = wr)
 case first => as_aux_lemma =>
  by_cases k1 : s < m
  · have g1 : (s : Int) < (m : Int) := by omega
    by_cases k2 : m < en
    · have g2 : (m : Int) < (en : Int) := by omega
      have HD := hid (show (decide (s < m) && decide (m < en)) = true from by rw [decide_eq_true k1, decide_eq_true k2]; rfl)
      clear k1 k2
      go_wp2
      go_meet
      exact ⟨by rw [HD.o], rfl⟩
    have g2 : ¬ (m : Int) < (en : Int) := by omega
    have HD := hid (show (decide (s < m) && decide (m < en)) = false from by rw [decide_eq_true k1, decide_eq_false k2]; rfl)
    clear k1 k2
    go_wp2
    go_meet
    exact ⟨by rw [HD.o], rfl⟩
  have g1 : ¬ (s : Int) < (m : Int) := by omega
  have HD := hid (show (decide (s < m) && decide (m < en)) = false from by rw [decide_eq_false k1]; rfl)
  clear k1
  go_wp2
  go_meet
  exact ⟨by rw [HD.o], rfl⟩
 case rest =>
 obtain ⟨rfl, hwx⟩ := hcut;subst hwx;obtain ⟨go1, hgo⟩ : ∃ x, x = (decide (s < m) && decide (m < en)) := ⟨_, rfl⟩;rw [← hgo];have HGO := hid hgo;clear hgo;rename World => W2
 go_upto_if 185 with fail
 go_cut [] (fun wx => ∃ D1, SWK encA.enc 6 w0 blk off D1 wx ∧ PermIn a b D D1 ∧ ∀ k, D1[k]! = Stab.a0t s m en D k)
 case first => as_aux_lemma =>
  cases go1 with
  | true =>
   have hk : s < m ∧ m < en := by have := HGO.o.symm; simpa using this
   have HC1 := hid (a8p HRR.o (.func (.func 171) #[] #[]) cap s m en D W2 HW.o HB.o.1 hk.1 hk.2 (by have h1 := HE.o; have h2 := HB.o; omega) HB.o.2.2.2.2)
   clear hk
   go_wp2_with fail
   refine HC1.o.mono ?_;rintro e w1 ⟨rfl, D1, hs1, hp1, hr1⟩
   go_wp2
   go_meet
   exact ⟨D1, hs1, permIn_mono D D1 s en a b HE.o.1 HE.o.2.2.2.1 HB.o.2.2.2.1 hp1, hr1⟩
  | false =>
  have HK := hid (show s = m ∨ m = en from by
   have h1 := HGO.o.symm;have h2 := HE.o
   by_cases k1 : s < m
   · rw [decide_eq_true k1, Bool.true_and, decide_eq_false_iff_not] at h1
     exact .inr (by omega)
   exact .inl (by omega))
  go_wp2
  go_meet
  exact ⟨D, HW.o, permIn_refl D a b, fun k => (Stab.a3d HK.o HE.o.2.1 HE.o.2.2.1 k).symm⟩
 case rest =>
 obtain ⟨D1, hs1, hp1, hr1⟩ := hcut;rename World => W3
 have HS1 := hid hs1;have HP1 := hid hp1;have HR1 := hid hr1;have HZ1 := hid hp1.1;clear hs1 hp1 hr1 HGO
 go_upto_region 41 with fail
 go_cut [199] (fun s199 wx => s199 = .bool (decide (a < s) && decide (s < mid)) ∧ wx = W3)
 case first => as_aux_lemma =>
  by_cases k1 : a < s
  · have g1 : (a : Int) < (s : Int) := by omega
    by_cases k2 : s < mid
    · have g2 : (s : Int) < (mid : Int) := by omega
      have HD := hid (show (decide (a < s) && decide (s < mid)) = true from by rw [decide_eq_true k1, decide_eq_true k2]; rfl)
      clear k1 k2
      go_wp2
      go_meet
      exact ⟨by rw [HD.o], rfl⟩
    have g2 : ¬ (s : Int) < (mid : Int) := by omega
    have HD := hid (show (decide (a < s) && decide (s < mid)) = false from by rw [decide_eq_true k1, decide_eq_false k2]; rfl)
    clear k1 k2
    go_wp2
    go_meet
    exact ⟨by rw [HD.o], rfl⟩
  have g1 : ¬ (a : Int) < (s : Int) := by omega
  have HD := hid (show (decide (a < s) && decide (s < mid)) = false from by rw [decide_eq_false k1]; rfl)
  clear k1
  go_wp2
  go_meet
  exact ⟨by rw [HD.o], rfl⟩
 case rest =>
 obtain ⟨rfl, hwx⟩ := hcut;subst hwx;obtain ⟨go2, hgo⟩ : ∃ x, x = (decide (a < s) && decide (s < mid)) := ⟨_, rfl⟩;rw [← hgo];have HGO := hid hgo;clear hgo;rename World => W4
 go_upto_if 199 with fail
 go_cut [] (fun wx => ∃ D2, SWK encA.enc 6 w0 blk off D2 wx ∧ Stab.SM ltA a s mid D1 D2)
 case first => as_aux_lemma =>
  cases go2 with
  | true =>
   have hk : a < s ∧ s < mid := by have := HGO.o.symm; simpa using this
   have HC1 := hid (HIH.o a s mid D1 W4 HS1.o HZ1.o hk.1 hk.2 (by have h1 := HM.o; have h2 := HB.o; omega) (by have h1 := HM.o; omega))
   clear hk
   go_wp2_with fail
   refine HC1.o.mono ?_;rintro e w1 ⟨rfl, D2, hs2, hm2⟩
   go_wp2
   go_meet
   exact ⟨D2, hs2, hm2⟩
  | false =>
  have HK := hid (show Stab.SM ltA a s mid D1 D1 from by
   have h1 := HGO.o.symm;have h2 := HE.o
   by_cases k1 : a < s
   · rw [decide_eq_true k1, Bool.true_and, decide_eq_false_iff_not] at h1
     obtain rfl : s = mid := by omega
     exact Stab.SM.right D1 a s
   obtain rfl : a = s := by omega
   exact Stab.SM.left D1 a mid)
  go_wp2
  go_meet
  exact ⟨D1, HS1.o, HK.o⟩
 case rest =>
 obtain ⟨D2, hs2, hm2⟩ := hcut;rename World => W5
 have HS2 := hid hs2;have HM2 := hid hm2;have HZ2 := hid (show D2.size = D.size from hm2.1.1.trans HZ1.o);clear hs2 hm2 HGO
 go_upto_region 43 with fail
 go_cut [213] (fun s213 wx => s213 = .bool (decide (mid < en) && decide (en < b)) ∧ wx = W5)
 case first => as_aux_lemma =>
  by_cases k1 : mid < en
  · have g1 : (mid : Int) < (en : Int) := by omega
    by_cases k2 : en < b
    · have g2 : (en : Int) < (b : Int) := by omega
      have HD := hid (show (decide (mid < en) && decide (en < b)) = true from by rw [decide_eq_true k1, decide_eq_true k2]; rfl)
      clear k1 k2
      go_wp2
      go_meet
      exact ⟨by rw [HD.o], rfl⟩
    have g2 : ¬ (en : Int) < (b : Int) := by omega
    have HD := hid (show (decide (mid < en) && decide (en < b)) = false from by rw [decide_eq_true k1, decide_eq_false k2]; rfl)
    clear k1 k2
    go_wp2
    go_meet
    exact ⟨by rw [HD.o], rfl⟩
  have g1 : ¬ (mid : Int) < (en : Int) := by omega
  have HD := hid (show (decide (mid < en) && decide (en < b)) = false from by rw [decide_eq_false k1]; rfl)
  clear k1
  go_wp2
  go_meet
  exact ⟨by rw [HD.o], rfl⟩
 case rest =>
 obtain ⟨rfl, hwx⟩ := hcut;subst hwx;obtain ⟨go3, hgo⟩ : ∃ x, x = (decide (mid < en) && decide (en < b)) := ⟨_, rfl⟩;rw [← hgo];have HGO := hid hgo;clear hgo;rename World => W6
 have HJ := hid (fun D3 (h : Stab.SM ltA mid en b D2 D3) => Stab.SM.join swoA HB.o.2.2.2.1 HE.o.1 HE.o.2.1 HE.o.2.2.1 HE.o.2.2.2.1 HE.o.2.2.2.2.1 HE.o.2.2.2.2.2.2.2.1 HE.o.2.2.2.2.2.2.2.2 HR1.o HP1.o HM2.o h)
 cases go3 with
 | true =>
  have hk : mid < en ∧ en < b := by have := HGO.o.symm; simpa using this
  have HC1 := hid (HIH.o mid en b D2 W6 HS2.o HZ2.o hk.1 hk.2 HB.o.2.2.2.1 (by have h1 := HM.o; omega))
  clear hk
  go_wp2_with fail
  refine HC1.o.mono ?_;rintro e w1 ⟨rfl, D3, hs3, hm3⟩
  go_wp2
  go_end0
  exact ⟨rfl, D3, hs3, HJ.o D3 hm3⟩
 | false =>
 have HK := hid (show Stab.SM ltA mid en b D2 D2 from by
  have h1 := HGO.o.symm;have h2 := HE.o
  by_cases k1 : mid < en
  · rw [decide_eq_true k1, Bool.true_and, decide_eq_false_iff_not] at h1
    obtain rfl : en = b := by omega
    exact Stab.SM.right D2 mid en
  obtain rfl : mid = en := by omega
  exact Stab.SM.left D2 mid b)
 go_wp2
 go_end0
 exact ⟨rfl, D2, HS2.o, HJ.o D2 HK.o⟩
theorem a3C (R : RowK encA.enc 6 w0 blk off d0) (HC : Go.Proofs.CmpLays Tryz.prog 171 #[] encA.enc 6 Pl.a6M blk off d0.size w0) (cap : Nat) : ∀ (n a m b : Nat) (D : Array Pl.Ar) (W : World), b - a ≤ n → SWK encA.enc 6 w0 blk off D W → D.size = d0.size → a < m → m < b → b ≤ D.size → D.size < 1000000000 →
 Calls Tryz.prog 193 #[.slice (some ⟨blk, off, none⟩) D.size cap, .int .i64 a, .int .i64 m, .int .i64 b, .func (.func 171) #[] #[]] W (a4g w0 blk off a m b D)
 | 0, a, m, b, D, W, hn, _, _, h1, h2, _, _ => by omega
 | n + 1, a, m, b, D, W, hn, S, hs, h1, h2, h3, hsz => by
  by_cases hm : m = a + 1
  · exact b1W R HC cap a m b D W S hs h1 h2 h3 hsz hm
  · by_cases hb : b = m + 1
    · exact a9U R HC cap a m b D W S hs h1 h2 h3 hsz hb hm
    · refine b3D R HC cap a m b D W S hs h1 h2 h3 hsz hm hb fun a' m' b' D' W' S' hz k1 k2 k3 k4 => ?_
      have := a3C R HC cap n a' m' b' D' W' (by omega) S' (hz.trans hs) k1 k2 (by omega) (by omega)
      rw [hz] at this;exact this
end
end Go.Proofs.YtdkejfjcchlnpaaGreat
