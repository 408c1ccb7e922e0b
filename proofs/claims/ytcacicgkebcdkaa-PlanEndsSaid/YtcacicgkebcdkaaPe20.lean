/-
  PlSym2, packed: what the claim needs of them.
-/
import Derived.Test.YtcacicgkebcdkaaPe19
set_option linter.unusedSimpArgs false
set_option linter.unusedVariables false
namespace Go.Proofs.Ytcacicgkebcdkaa
open Go.RowKit Go.Ox Go.Shelf Go.Sort
section
variable {w0 : World} {blk off : Nat} {d0 : Array Pl.Ar}
structure LoHi (a m b mid lo hi : Nat) : Prop where
  al : a ≤ lo
  lh : lo ≤ hi
  hm : hi ≤ m
  hd : hi ≤ mid
  bd : mid + m ≤ lo + b
  e1 : lo = a ∨ mid + m - lo = b
  e2 : hi = m ∨ mid + m - hi = m
set_option maxHeartbeats 8000000 in
set_option maxRecDepth 1000000 in
theorem sym_gen (R : RowK encA.enc 6 w0 blk off d0) (HC : Go.Proofs.CmpLays Try.prog 32 #[] encA.enc 6 Pl.cmpA blk off d0.size w0) (cap a m b : Nat) (D : Array Pl.Ar) (W : World) (S : SWK encA.enc 6 w0 blk off D W) (hs : D.size = d0.size) (h1 : a < m) (h2 : m < b) (h3 : b ≤ D.size) (hsz : D.size < 1000000000) (hm1 : m ≠ a + 1) (hb1 : b ≠ m + 1)
    (ih : ∀ (a' m' b' : Nat) (D' : Array Pl.Ar) (W' : World), SWK encA.enc 6 w0 blk off D' W' → D'.size = D.size → a' < m' → m' < b' → b' ≤ D.size → b' - a' < b - a → Calls Try.prog 75 #[.slice (some ⟨blk, off, none⟩) D.size cap, .int .i64 a', .int .i64 m', .int .i64 b', .func (.func 32) #[] #[]] W' (SymPost w0 blk off a' m' b' D')) :
    Calls Try.prog 75 #[.slice (some ⟨blk, off, none⟩) D.size cap, .int .i64 a, .int .i64 m, .int .i64 b, .func (.func 32) #[] #[]] W (SymPost w0 blk off a m b D) := by
  have HS := Lib.hid S
  have HRR := Lib.hid R
  have HCM := Lib.hid HC
  have HB := Lib.hid (show D.size = d0.size ∧ a < m ∧ m < b ∧ b ≤ D.size ∧ D.size < 1000000000 from ⟨hs, h1, h2, h3, hsz⟩)
  have HIH := Lib.hid ih
  obtain ⟨ma, hma⟩ : ∃ x, x = m - a := ⟨_, rfl⟩
  obtain ⟨mb, hmb⟩ : ∃ x, x = b - m := ⟨_, rfl⟩
  obtain ⟨z0, hz0⟩ : ∃ x, x = a + b := ⟨_, rfl⟩
  obtain ⟨mid, hmid⟩ : ∃ x, x = (a + b) / 2 := ⟨_, rfl⟩
  obtain ⟨n, hn⟩ : ∃ x, x = mid + m := ⟨_, rfl⟩
  have e1 : ((m : Int) - (a : Int)) = (ma : Int) := by omega
  have e2 : IntKind.i64.wrap (ma : Int) = (ma : Int) := IntWalk.i64_in _ (by omega)
  have e3 : ((ma : Int) == 1) = false := beq_eq_false_iff_ne.2 (by omega)
  have e4 : ¬ (ma : Int) = 1 := by omega
  have e5 : ((b : Int) - (m : Int)) = (mb : Int) := by omega
  have e6 : IntKind.i64.wrap (mb : Int) = (mb : Int) := IntWalk.i64_in _ (by omega)
  have e7 : ((mb : Int) == 1) = false := beq_eq_false_iff_ne.2 (by omega)
  have e8 : ¬ (mb : Int) = 1 := by omega
  have q5 : ((a : Int) + (b : Int)) = (z0 : Int) := by omega
  have q6 : IntKind.i64.wrap (z0 : Int) = (z0 : Int) := IntWalk.i64_in _ (by omega)
  have q7 : (z0 : Int) / 2 = (mid : Int) := by omega
  have q8 : IntKind.u64.wrap (z0 : Int) = (z0 : Int) := by rw [IntKind.wrap_u64]; omega
  have q9 : IntKind.i64.wrap (mid : Int) = (mid : Int) := IntWalk.i64_in _ (by omega)
  have r1 : ((mid : Int) + (m : Int)) = (n : Int) := by omega
  have r2 : IntKind.i64.wrap (n : Int) = (n : Int) := IntWalk.i64_in _ (by omega)
  have HM := Lib.hid (show n = mid + m ∧ mid = (a + b) / 2 ∧ a + 2 ≤ m ∧ m + 2 ≤ b ∧ a < mid ∧ mid < b from by omega)
  clear S R HC hs h1 h2 h3 hsz hm1 hb1 hma hmb hz0 hmid hn ih
  go_enter Try.func75, Try.ntmps75
  go_upto_if 140 with fail
  clear e1 e2 e3 e4 e5 e6 e7 e8 q5 q6 q7 q8 q9 r1 r2
  go_cut [20, 21] (fun s20 s21 wx => ∃ lo hi : Nat, s20 = .int .i64 (lo : Int) ∧ s21 = .int .i64 (hi : Int) ∧ LoHi a m b mid lo hi ∧ wx = W)
  case first => as_aux_lemma =>
    by_cases hlt : mid < m
    · have g1 : (mid : Int) < (m : Int) := by omega
      obtain ⟨lo, hlo⟩ : ∃ x, x = n - b := ⟨_, rfl⟩
      have hm9 := HM.out
      have hb9 := HB.out
      have u1 : ((n : Int) - (b : Int)) = (lo : Int) := by omega
      have u2 : IntKind.i64.wrap (lo : Int) = (lo : Int) := IntWalk.i64_in _ (by omega)
      have HL := Lib.hid (show LoHi a m b mid lo mid from ⟨by omega, by omega, by omega, Nat.le_refl _, by omega, .inr (by omega), .inr (by omega)⟩)
      clear hlt hlo hm9 hb9
      go_wp2
      go_meet
      exact ⟨lo, mid, rfl, rfl, HL.out, rfl⟩
    · have g1 : ¬ (mid : Int) < (m : Int) := by omega
      have HL := Lib.hid (show LoHi a m b mid a m from ⟨Nat.le_refl _, by have := HB.out; omega, Nat.le_refl _, by omega, by have := HM.out; omega, .inl rfl, .inl rfl⟩)
      clear hlt
      go_wp2
      go_meet
      exact ⟨a, m, rfl, rfl, HL.out, rfl⟩
  case rest =>
  obtain ⟨lo, hi, rfl, rfl, hlh, hwx⟩ := hcut
  subst hwx
  have HLH := Lib.hid hlh
  clear hlh
  rename World => W1
  obtain ⟨p, hp⟩ : ∃ p, p = n - 1 := ⟨_, rfl⟩
  have u1 : ((n : Int) - 1) = (p : Int) := by have := HM.out; omega
  have u2 : IntKind.i64.wrap (p : Int) = (p : Int) := IntWalk.i64_in _ (by have h1 := HM.out; have h2 := HB.out; omega)
  have HPN := Lib.hid hp
  clear hp
  go_wp2
  clear u1 u2
  go_loopg [20, 21] (hi - lo) (fun g vi vj wr => ∃ s r : Nat, vi = .int .i64 (s : Int) ∧ vj = .int .i64 (r : Int) ∧ lo ≤ s ∧ s ≤ r ∧ r ≤ hi ∧ r - s ≤ g ∧ (s = lo ∨ ltA D[n - s]! D[s - 1]! = false) ∧ (r = hi ∨ ltA D[n - 1 - r]! D[r]! = true) ∧ SWK encA.enc 6 w0 blk off D wr)
  case atStart => exact ⟨lo, hi, rfl, rfl, Nat.le_refl _, HLH.out.lh, Nat.le_refl _, Nat.le_refl _, .inl rfl, .inl rfl, HS.out⟩
  case round =>
    obtain ⟨s, r, rfl, rfl, hi1, hij, hj, hg, hq, hp, hw⟩ := hrel
    have HI := Lib.hid (show lo ≤ s ∧ s ≤ r ∧ r ≤ hi ∧ r - s ≤ gk from ⟨hi1, hij, hj, hg⟩)
    have HQ := Lib.hid hq
    have HP := Lib.hid hp
    have HW := Lib.hid hw
    clear hi1 hij hj hg hq hp hw
    by_cases hlt : s < r
    · have g1 : (s : Int) < (r : Int) := by omega
      obtain ⟨c, hc⟩ : ∃ h, h = (s + r) / 2 := ⟨_, rfl⟩
      obtain ⟨y, hy⟩ : ∃ y, y = p - c := ⟨_, rfl⟩
      have HX9 := Lib.hid (show s ≤ c ∧ c < r ∧ r ≤ hi ∧ c < D.size ∧ y < D.size ∧ y = n - 1 - c ∧ y = n - (c + 1) from by have h1 := HI.out; have h2 := HB.out; have h3 := HLH.out.hm; have h4 := HLH.out.hd; have h5 := HLH.out.bd; have h6 := HM.out; have h7 := HPN.out; omega)
      have hx9 := HX9.out
      have hb9 := HB.out
      obtain ⟨z, hz⟩ : ∃ z, z = s + r := ⟨_, rfl⟩
      have q5 : ((s : Int) + (r : Int)) = (z : Int) := by omega
      have q6 : IntKind.i64.wrap (z : Int) = (z : Int) := IntWalk.i64_in _ (by have h3 := HLH.out.hm; omega)
      have q7 : (z : Int) / 2 = (c : Int) := by omega
      have q8 : IntKind.u64.wrap (z : Int) = (z : Int) := by rw [IntKind.wrap_u64]; have h3 := HLH.out.hm; omega
      have q9 : IntKind.i64.wrap (c : Int) = (c : Int) := IntWalk.i64_in _ (by omega)
      have q1 : ((p : Int) - (c : Int)) = (y : Int) := by have h4 := HLH.out.hd; have h5 := HM.out; have h6 := HPN.out; omega
      have q2 : IntKind.i64.wrap (y : Int) = (y : Int) := IntWalk.i64_in _ (by omega)
      have z1 : (c : Int) < (D.size : Int) := by omega
      have z2 : (y : Int) < (D.size : Int) := by omega
      have hi9 : (c : Int) + 1 ≤ 1000000000 := by omega
      clear hc hz hy hx9 hb9 hlt
      obtain ⟨kk, cA, cB, hkk, l1, l2, hcg⟩ := cmp_facts HRR.out HCM.out HW.out HB.out.1 y c (by have h1 := HX9.out; have h2 := HB.out; omega) (by have h1 := HX9.out; have h2 := HB.out; omega)
      obtain ⟨cv, hcv⟩ : ∃ cc, cc = Pl.cmpA D[y]! D[c]! := ⟨_, rfl⟩
      rw [← hcv] at hcg
      have HCV := Lib.hid hcv
      have mixed := mixedA
      have eg := egA
      clear hcv
      go_upto_region 35 with fail
      obtain ⟨T, hT⟩ : ∃ T, T = 39 := ⟨_, rfl⟩
      rw [← hT]
      have aT : ∀ w, (isAgg T).run Try.prog w = .ok true w := by rw [hT]; exact Try.isAgg39
      have zT : ∀ w, (Go.sizeOf T).run Try.prog w = .ok kk w := by rw [hT, hkk]; exact Try.sizeOf39
      clear hT hkk
      by_cases hc : cv < 0
      · have HL := Lib.hid (show ltA D[y]! D[c]! = true from by rw [HCV.out] at hc; exact decide_eq_true hc)
        have hd : decide (cv < 0) = true := decide_eq_true hc
        clear hi9
        go_wp2_with fail
        go_quiet_grown (first | (go_at_fn 32; refine Calls.grown_of (hcg _ _)))
        have HW2 := Lib.hid (HW.out.grown nq osq)
        clear q1 q2 q5 q6 q7 q8 q9 l1 l2 hcg
        generalize grow (wr.drewN nq) osq = w9 at *
        go_wp2
        go_roundg (c - s)
        case measure => have h1 := HX9.out; have h2 := HI.out; omega
        case rel => exact ⟨s, c, rfl, rfl, HI.out.1, HX9.out.1, by have h1 := HX9.out; omega, Nat.le_refl _, HQ.out, .inr (by rw [← HX9.out.2.2.2.2.2.1]; exact HL.out), HW2.out⟩
      · have HL := Lib.hid (show ltA D[y]! D[c]! = false from by rw [HCV.out] at hc; exact decide_eq_false hc)
        have hd : decide (cv < 0) = false := decide_eq_false hc
        clear hc
        go_wp2_with fail
        go_quiet_grown (first | (go_at_fn 32; refine Calls.grown_of (hcg _ _)))
        have HW2 := Lib.hid (HW.out.grown nq osq)
        clear q1 q2 q5 q6 q7 q8 q9 l1 l2 hcg
        generalize grow (wr.drewN nq) osq = w9 at *
        go_wp2
        go_roundg (r - (c + 1))
        case measure => have h1 := HX9.out; have h2 := HI.out; omega
        case rel => exact ⟨c + 1, r, by first | rfl | go_num, rfl, by have h1 := HX9.out; have h2 := HI.out; omega, by have h1 := HX9.out; omega, HX9.out.2.2.1, Nat.le_refl _, .inr (by rw [← HX9.out.2.2.2.2.2.2, Nat.add_sub_cancel]; exact HL.out), HP.out, HW2.out⟩
    · have g1 : ¬ (s : Int) < (r : Int) := by omega
      obtain rfl : s = r := by have := HI.out; omega
      obtain ⟨en, hen⟩ : ∃ en, en = n - s := ⟨_, rfl⟩
      have q1 : ((n : Int) - (s : Int)) = (en : Int) := by have h1 := HI.out; have h2 := HLH.out.hm; have h3 := HM.out; omega
      have q2 : IntKind.i64.wrap (en : Int) = (en : Int) := IntWalk.i64_in _ (by have h3 := HM.out; have h4 := HB.out; omega)
      have HE := Lib.hid (show a ≤ s ∧ s ≤ m ∧ m ≤ en ∧ en ≤ b ∧ s + en = mid + m ∧ s ≤ mid ∧ mid ≤ en ∧ (s = a ∨ en = b ∨ ltA D[en]! D[s - 1]! = false) ∧ (s = m ∨ en = m ∨ ltA D[en - 1]! D[s]! = true) from by
        have h1 := HI.out; have h2 := HLH.out; have h3 := HM.out
        refine ⟨by have := h2.al; omega, by have := h2.hm; omega, by have := h2.hd; omega, by have := h2.bd; omega, by have := h2.hm; omega, by have := h2.hd; omega, by have := h2.hm; omega, ?_, ?_⟩
        · rcases HQ.out with q | q
          · rcases h2.e1 with e | e
            · exact .inl (by omega)
            · exact .inr (.inl (by omega))
          · rw [hen]; exact .inr (.inr q)
        · rcases HP.out with q | q
          · rcases h2.e2 with e | e
            · exact .inl (by omega)
            · exact .inr (.inl (by omega))
          · rw [show en - 1 = n - 1 - s by omega]; exact .inr (.inr q))
      clear hen hlt HQ HP HI HLH
      go_upto_region 39 with fail
      clear q1 q2 g1
      go_cut [185] (fun s185 wx => s185 = .bool (decide (s < m) && decide (m < en)) ∧ wx = wr)
      case first => as_aux_lemma =>
        by_cases k1 : s < m
        · have g1 : (s : Int) < (m : Int) := by omega
          by_cases k2 : m < en
          · have g2 : (m : Int) < (en : Int) := by omega
            have HD := Lib.hid (show (decide (s < m) && decide (m < en)) = true from by rw [decide_eq_true k1, decide_eq_true k2]; rfl)
            clear k1 k2
            go_wp2
            go_meet
            exact ⟨by rw [HD.out], rfl⟩
          · have g2 : ¬ (m : Int) < (en : Int) := by omega
            have HD := Lib.hid (show (decide (s < m) && decide (m < en)) = false from by rw [decide_eq_true k1, decide_eq_false k2]; rfl)
            clear k1 k2
            go_wp2
            go_meet
            exact ⟨by rw [HD.out], rfl⟩
        · have g1 : ¬ (s : Int) < (m : Int) := by omega
          have HD := Lib.hid (show (decide (s < m) && decide (m < en)) = false from by rw [decide_eq_false k1]; rfl)
          clear k1
          go_wp2
          go_meet
          exact ⟨by rw [HD.out], rfl⟩
      case rest =>
      obtain ⟨rfl, hwx⟩ := hcut
      subst hwx
      obtain ⟨go1, hgo⟩ : ∃ x, x = (decide (s < m) && decide (m < en)) := ⟨_, rfl⟩
      rw [← hgo]
      have HGO := Lib.hid hgo
      clear hgo
      rename World => W2
      go_upto_if 185 with fail
      go_cut [] (fun wx => ∃ D1, SWK encA.enc 6 w0 blk off D1 wx ∧ PermIn a b D D1 ∧ ∀ k, D1[k]! = Stab.rotAt s m en D k)
      case first => as_aux_lemma =>
        cases go1 with
        | true =>
          have hk : s < m ∧ m < en := by have := HGO.out.symm; simpa using this
          have HC1 := Lib.hid (rotate_any HRR.out (.func (.func 32) #[] #[]) cap s m en D W2 HW.out HB.out.1 hk.1 hk.2 (by have h1 := HE.out; have h2 := HB.out; omega) HB.out.2.2.2.2)
          clear hk
          go_wp2_with fail
          refine HC1.out.mono ?_
          rintro e w1 ⟨rfl, D1, hs1, hp1, hr1⟩
          go_wp2
          go_meet
          exact ⟨D1, hs1, permIn_mono D D1 s en a b HE.out.1 HE.out.2.2.2.1 HB.out.2.2.2.1 hp1, hr1⟩
        | false =>
          have HK := Lib.hid (show s = m ∨ m = en from by
            have h1 := HGO.out.symm
            have h2 := HE.out
            by_cases k1 : s < m
            · rw [decide_eq_true k1, Bool.true_and, decide_eq_false_iff_not] at h1
              exact .inr (by omega)
            · exact .inl (by omega))
          go_wp2
          go_meet
          exact ⟨D, HW.out, permIn_refl D a b, fun k => (Stab.rotAt_same HK.out HE.out.2.1 HE.out.2.2.1 k).symm⟩
      case rest =>
      obtain ⟨D1, hs1, hp1, hr1⟩ := hcut
      rename World => W3
      have HS1 := Lib.hid hs1
      have HP1 := Lib.hid hp1
      have HR1 := Lib.hid hr1
      have HZ1 := Lib.hid hp1.1
      clear hs1 hp1 hr1 HGO
      go_upto_region 41 with fail
      go_cut [199] (fun s199 wx => s199 = .bool (decide (a < s) && decide (s < mid)) ∧ wx = W3)
      case first => as_aux_lemma =>
        by_cases k1 : a < s
        · have g1 : (a : Int) < (s : Int) := by omega
          by_cases k2 : s < mid
          · have g2 : (s : Int) < (mid : Int) := by omega
            have HD := Lib.hid (show (decide (a < s) && decide (s < mid)) = true from by rw [decide_eq_true k1, decide_eq_true k2]; rfl)
            clear k1 k2
            go_wp2
            go_meet
            exact ⟨by rw [HD.out], rfl⟩
          · have g2 : ¬ (s : Int) < (mid : Int) := by omega
            have HD := Lib.hid (show (decide (a < s) && decide (s < mid)) = false from by rw [decide_eq_true k1, decide_eq_false k2]; rfl)
            clear k1 k2
            go_wp2
            go_meet
            exact ⟨by rw [HD.out], rfl⟩
        · have g1 : ¬ (a : Int) < (s : Int) := by omega
          have HD := Lib.hid (show (decide (a < s) && decide (s < mid)) = false from by rw [decide_eq_false k1]; rfl)
          clear k1
          go_wp2
          go_meet
          exact ⟨by rw [HD.out], rfl⟩
      case rest =>
      obtain ⟨rfl, hwx⟩ := hcut
      subst hwx
      obtain ⟨go2, hgo⟩ : ∃ x, x = (decide (a < s) && decide (s < mid)) := ⟨_, rfl⟩
      rw [← hgo]
      have HGO := Lib.hid hgo
      clear hgo
      rename World => W4
      go_upto_if 199 with fail
      go_cut [] (fun wx => ∃ D2, SWK encA.enc 6 w0 blk off D2 wx ∧ Stab.SM ltA a s mid D1 D2)
      case first => as_aux_lemma =>
        cases go2 with
        | true =>
          have hk : a < s ∧ s < mid := by have := HGO.out.symm; simpa using this
          have HC1 := Lib.hid (HIH.out a s mid D1 W4 HS1.out HZ1.out hk.1 hk.2 (by have h1 := HM.out; have h2 := HB.out; omega) (by have h1 := HM.out; omega))
          clear hk
          go_wp2_with fail
          refine HC1.out.mono ?_
          rintro e w1 ⟨rfl, D2, hs2, hm2⟩
          go_wp2
          go_meet
          exact ⟨D2, hs2, hm2⟩
        | false =>
          have HK := Lib.hid (show Stab.SM ltA a s mid D1 D1 from by
            have h1 := HGO.out.symm
            have h2 := HE.out
            by_cases k1 : a < s
            · rw [decide_eq_true k1, Bool.true_and, decide_eq_false_iff_not] at h1
              obtain rfl : s = mid := by omega
              exact Stab.SM.right D1 a s
            · obtain rfl : a = s := by omega
              exact Stab.SM.left D1 a mid)
          go_wp2
          go_meet
          exact ⟨D1, HS1.out, HK.out⟩
      case rest =>
      obtain ⟨D2, hs2, hm2⟩ := hcut
      rename World => W5
      have HS2 := Lib.hid hs2
      have HM2 := Lib.hid hm2
      have HZ2 := Lib.hid (show D2.size = D.size from hm2.1.1.trans HZ1.out)
      clear hs2 hm2 HGO
      go_upto_region 43 with fail
      go_cut [213] (fun s213 wx => s213 = .bool (decide (mid < en) && decide (en < b)) ∧ wx = W5)
      case first => as_aux_lemma =>
        by_cases k1 : mid < en
        · have g1 : (mid : Int) < (en : Int) := by omega
          by_cases k2 : en < b
          · have g2 : (en : Int) < (b : Int) := by omega
            have HD := Lib.hid (show (decide (mid < en) && decide (en < b)) = true from by rw [decide_eq_true k1, decide_eq_true k2]; rfl)
            clear k1 k2
            go_wp2
            go_meet
            exact ⟨by rw [HD.out], rfl⟩
          · have g2 : ¬ (en : Int) < (b : Int) := by omega
            have HD := Lib.hid (show (decide (mid < en) && decide (en < b)) = false from by rw [decide_eq_true k1, decide_eq_false k2]; rfl)
            clear k1 k2
            go_wp2
            go_meet
            exact ⟨by rw [HD.out], rfl⟩
        · have g1 : ¬ (mid : Int) < (en : Int) := by omega
          have HD := Lib.hid (show (decide (mid < en) && decide (en < b)) = false from by rw [decide_eq_false k1]; rfl)
          clear k1
          go_wp2
          go_meet
          exact ⟨by rw [HD.out], rfl⟩
      case rest =>
      obtain ⟨rfl, hwx⟩ := hcut
      subst hwx
      obtain ⟨go3, hgo⟩ : ∃ x, x = (decide (mid < en) && decide (en < b)) := ⟨_, rfl⟩
      rw [← hgo]
      have HGO := Lib.hid hgo
      clear hgo
      rename World => W6
      have HJ := Lib.hid (fun D3 (h : Stab.SM ltA mid en b D2 D3) => Stab.SM.join swoA HB.out.2.2.2.1 HE.out.1 HE.out.2.1 HE.out.2.2.1 HE.out.2.2.2.1 HE.out.2.2.2.2.1 HE.out.2.2.2.2.2.2.2.1 HE.out.2.2.2.2.2.2.2.2 HR1.out HP1.out HM2.out h)
      cases go3 with
      | true =>
        have hk : mid < en ∧ en < b := by have := HGO.out.symm; simpa using this
        have HC1 := Lib.hid (HIH.out mid en b D2 W6 HS2.out HZ2.out hk.1 hk.2 HB.out.2.2.2.1 (by have h1 := HM.out; omega))
        clear hk
        go_wp2_with fail
        refine HC1.out.mono ?_
        rintro e w1 ⟨rfl, D3, hs3, hm3⟩
        go_wp2
        go_end0
        exact ⟨rfl, D3, hs3, HJ.out D3 hm3⟩
      | false =>
        have HK := Lib.hid (show Stab.SM ltA mid en b D2 D2 from by
          have h1 := HGO.out.symm
          have h2 := HE.out
          by_cases k1 : mid < en
          · rw [decide_eq_true k1, Bool.true_and, decide_eq_false_iff_not] at h1
            obtain rfl : en = b := by omega
            exact Stab.SM.right D2 mid en
          · obtain rfl : mid = en := by omega
            exact Stab.SM.left D2 mid b)
        go_wp2
        go_end0
        exact ⟨rfl, D2, HS2.out, HJ.out D2 HK.out⟩
theorem symMerge_any (R : RowK encA.enc 6 w0 blk off d0) (HC : Go.Proofs.CmpLays Try.prog 32 #[] encA.enc 6 Pl.cmpA blk off d0.size w0) (cap : Nat) : ∀ (n a m b : Nat) (D : Array Pl.Ar) (W : World), b - a ≤ n → SWK encA.enc 6 w0 blk off D W → D.size = d0.size → a < m → m < b → b ≤ D.size → D.size < 1000000000 →
    Calls Try.prog 75 #[.slice (some ⟨blk, off, none⟩) D.size cap, .int .i64 a, .int .i64 m, .int .i64 b, .func (.func 32) #[] #[]] W (SymPost w0 blk off a m b D)
  | 0, a, m, b, D, W, hn, _, _, h1, h2, _, _ => by omega
  | n + 1, a, m, b, D, W, hn, S, hs, h1, h2, h3, hsz => by
    by_cases hm : m = a + 1
    · exact sym_left R HC cap a m b D W S hs h1 h2 h3 hsz hm
    · by_cases hb : b = m + 1
      · exact sym_right R HC cap a m b D W S hs h1 h2 h3 hsz hb hm
      · refine sym_gen R HC cap a m b D W S hs h1 h2 h3 hsz hm hb fun a' m' b' D' W' S' hz k1 k2 k3 k4 => ?_
        have := symMerge_any R HC cap n a' m' b' D' W' (by omega) S' (hz.trans hs) k1 k2 (by omega) (by omega)
        rw [hz] at this
        exact this
end
end Go.Proofs.Ytcacicgkebcdkaa
