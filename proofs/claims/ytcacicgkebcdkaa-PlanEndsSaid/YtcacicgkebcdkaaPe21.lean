/-
  PlStab, packed: what the claim needs of them.
-/
import Derived.Test.YtcacicgkebcdkaaPe20
set_option linter.unusedSimpArgs false
set_option linter.unusedVariables false
set_option maxRecDepth 100000
namespace Go.Proofs.Ytcacicgkebcdkaa
open Go.RowKit Go.Ox Go.Shelf Go.Sort
section
variable {w0 : World} {blk off : Nat} {d0 : Array Pl.Ar}
theorem ins_any (R : RowK encA.enc 6 w0 blk off d0) (cap a b : Nat) (D : Array Pl.Ar) (W : World) (S : SWK encA.enc 6 w0 blk off D W) (hs : D.size = d0.size) (hab : a ≤ b) (hb : b ≤ D.size) (hsz : D.size < 1000000000) :
    Calls Try.prog 74 #[.slice (some ⟨blk, off, none⟩) D.size cap, .int .i64 a, .int .i64 b, .func (.func 32) #[] #[]] W fun e w' => e = .returned (.tuple #[]) ∧ ∃ D', SWK encA.enc 6 w0 blk off D' w' ∧ PermIn a b D D' ∧ SortedIn ltA a b D' := by
  have h := insertionSort_holds (lt := ltA) swoA D a b hab hb
  have hcon := AnyQ.insertionSortCmpFunc Try.insA 6 Try.isAgg39 Try.sizeOf39 encA.enc encA.len encA.one Pl.cmpA 32 #[] blk off cap a b D W egA (cmpLaysA blk off _ W) (S.holds R.hblk R.hH hs) (S.lt R.hblk) hab hb (by omega)
  refine hcon.mono ?_
  rintro e w' ⟨h1, n, os, rfl⟩
  exact ⟨h1, _, S.on R.hblk n _ os h.1.1, h.1, h.2⟩
set_option maxHeartbeats 8000000 in
set_option maxRecDepth 1000000 in
theorem stable_any (R : RowK encA.enc 6 w0 blk off d0) (cap : Nat) (D : Array Pl.Ar) (W : World) (S : SWK encA.enc 6 w0 blk off D W) (hs : D.size = d0.size) (hsz : D.size < 100000000) :
    Calls Try.prog 59 #[.slice (some ⟨blk, off, none⟩) D.size cap, .int .i64 D.size, .func (.func 32) #[] #[]] W fun e w' => e = .returned (.tuple #[]) ∧ ∃ D', SWK encA.enc 6 w0 blk off D' w' ∧ PermIn 0 D.size D D' ∧ SortedIn ltA 0 D.size D' := by
  have HS := Lib.hid S
  have HRR := Lib.hid R
  have HIA := Lib.hid (fun a b D' W' (S' : SWK encA.enc 6 w0 blk off D' W') (hz : D'.size = D.size) h1 h2 => hz ▸ ins_any R cap a b D' W' S' (hz.trans hs) h1 h2 (by omega))
  have HSA := Lib.hid (fun a m b D' W' (S' : SWK encA.enc 6 w0 blk off D' W') (hz : D'.size = D.size) h1 h2 h3 => hz ▸ symMerge_any R (cmpLaysA blk off _ w0) cap (b - a) a m b D' W' (Nat.le_refl _) S' (hz.trans hs) h1 h2 h3 (by omega))
  obtain ⟨n, hn⟩ : ∃ n, n = D.size := ⟨_, rfl⟩
  rw [← hn] at HIA HSA ⊢
  have HN := Lib.hid (show n = D.size ∧ n < 100000000 from ⟨hn, by omega⟩)
  have hn9 : (n : Int) < 100000000 := by omega
  clear S R hs hsz hn
  go_enter Try.func59, Try.ntmps59
  go_wp2
  go_loopg [7, 8] (n + 40) (fun g va vb wr => ∃ (av bv u : Nat) (D' : Array Pl.Ar), va = .int .i64 (av : Int) ∧ vb = .int .i64 (bv : Int) ∧ av = 20 * u ∧ bv = av + 20 ∧ av ≤ n ∧ n + 40 - bv ≤ g ∧ Stab.Runs ltA 20 0 av D' ∧ PermIn 0 n D D' ∧ SWK encA.enc 6 w0 blk off D' wr)
  case atStart => exact ⟨0, 20, 0, D, rfl, rfl, rfl, rfl, Nat.zero_le _, by omega, Stab.Runs.nil _ _, permIn_refl D 0 n, HS.out⟩
  case round =>
    obtain ⟨av, bv, u, D', rfl, rfl, hav, hbv, han, hg, hr, hp, hw⟩ := hrel
    have HA := Lib.hid (show av = 20 * u ∧ bv = av + 20 ∧ av ≤ n ∧ n + 40 - bv ≤ gk from ⟨hav, hbv, han, hg⟩)
    have HR := Lib.hid hr
    have HP := Lib.hid hp
    have HW := Lib.hid hw
    have HZ := Lib.hid (show D'.size = n from hp.1.trans HN.out.1.symm)
    clear hav hbv han hg hr hp hw
    by_cases hle : bv ≤ n
    · have g1 : (bv : Int) ≤ (n : Int) := by omega
      have HLE := Lib.hid hle
      have HC := Lib.hid (HIA.out av bv D' wr HW.out HZ.out (by have := HA.out; omega) (by have h1 := HZ.out; omega))
      obtain ⟨b2, hb2⟩ : ∃ b2, b2 = bv + 20 := ⟨_, rfl⟩
      have q1 : ((bv : Int) + 20) = (b2 : Int) := by omega
      have q2 : IntKind.i64.wrap (b2 : Int) = (b2 : Int) := IntWalk.i64_in _ (by omega)
      have HB2 := Lib.hid hb2
      clear hle hb2
      go_wp2_with fail
      refine HC.out.mono ?_
      rintro e w1 ⟨rfl, D2, hs2, hp2, ho2⟩
      have HR2 := Lib.hid (show Stab.Runs ltA 20 0 bv D2 from by
        have h1 := HA.out
        have h2 := h1.1
        refine Stab.Runs.more (u := u) (d := D') (by omega) (by rw [← h2]; exact HR.out) (by omega) (fun k hk => hp2.2.1 k (.inl (by omega))) (by rw [← h2]; exact ho2))
      have HP2 := Lib.hid (permIn_trans _ _ _ 0 n HP.out (permIn_mono D' D2 av bv 0 n (Nat.zero_le _) HLE.out (by have := HZ.out; omega) hp2))
      clear hp2 ho2
      go_wp2
      go_roundg (n + 40 - b2)
      case measure => have h1 := HA.out; have h2 := HB2.out; have h3 := HLE.out; omega
      case rel => exact ⟨bv, b2, u + 1, D2, rfl, rfl, by have := HA.out; omega, HB2.out, HLE.out, Nat.le_refl _, HR2.out, HP2.out, hs2⟩
    · have g1 : ¬ (bv : Int) ≤ (n : Int) := by omega
      have HC := Lib.hid (HIA.out av n D' wr HW.out HZ.out HA.out.2.2.1 (by have h1 := HZ.out; omega))
      have HLE := Lib.hid hle
      clear hle
      go_wp2_with fail
      refine HC.out.mono ?_
      rintro e w1 ⟨rfl, D2, hs2, hp2, ho2⟩
      have HR2 := Lib.hid (show Stab.Runs ltA 20 0 n D2 from by
        have h1 := HA.out
        have h2 := h1.1
        have h3 := HLE.out
        refine Stab.Runs.more (u := u) (d := D') (by omega) (by rw [← h2]; exact HR.out) (by omega) (fun k hk => hp2.2.1 k (.inl (by omega))) (by rw [← h2]; exact ho2))
      have HP2 := Lib.hid (permIn_trans _ _ _ 0 n HP.out (permIn_mono D' D2 av n 0 n (Nat.zero_le _) (Nat.le_refl _) (by have := HZ.out; omega) hp2))
      have HS2 := Lib.hid hs2
      clear hp2 ho2 hs2 HC HR HP HW HZ HA HLE g1
      go_wp2
      go_loopg [6] n (fun g v6 wr => ∃ (bs : Nat) (D' : Array Pl.Ar), v6 = .int .i64 (bs : Int) ∧ 0 < bs ∧ bs < 400000000 ∧ n - bs ≤ g ∧ Stab.Runs ltA bs 0 n D' ∧ PermIn 0 n D D' ∧ SWK encA.enc 6 w0 blk off D' wr)
      case atStart => exact ⟨20, D2, rfl, by omega, by omega, by omega, HR2.out, HP2.out, HS2.out⟩
      case round =>
        obtain ⟨bs, D', rfl, hb0, hb1, hg, hr, hp, hw⟩ := hrel
        have HBS := Lib.hid (show 0 < bs ∧ bs < 400000000 ∧ n - bs ≤ gk from ⟨hb0, hb1, hg⟩)
        have HR := Lib.hid hr
        have HP := Lib.hid hp
        have HW := Lib.hid hw
        have HZ := Lib.hid (show D'.size = n from hp.1.trans HN.out.1.symm)
        clear hb0 hb1 hg hr hp hw HR2 HP2 HS2
        by_cases hlt : bs < n
        · have g1 : (bs : Int) < (n : Int) := by omega
          obtain ⟨bs2, hbs2⟩ : ∃ x, x = 2 * bs := ⟨_, rfl⟩
          have q1 : ((2 : Int) * (bs : Int)) = (bs2 : Int) := by omega
          have q2 : IntKind.i64.wrap (bs2 : Int) = (bs2 : Int) := IntWalk.i64_in _ (by have := HBS.out; omega)
          have HB2 := Lib.hid (show bs2 = 2 * bs ∧ bs < n ∧ bs2 < 200000000 from ⟨hbs2, hlt, by have := HN.out; omega⟩)
          clear hbs2 hlt
          go_wp2
          go_loopg [7, 8] (n + n) (fun g va vb wr => ∃ (av bv u : Nat) (E : Array Pl.Ar), va = .int .i64 (av : Int) ∧ vb = .int .i64 (bv : Int) ∧ av = bs2 * u ∧ bv = av + bs2 ∧ av ≤ n ∧ n + n - av ≤ g ∧ Stab.Runs ltA bs2 0 av E ∧ Stab.Runs ltA bs av n E ∧ PermIn 0 n D E ∧ SWK encA.enc 6 w0 blk off E wr)
          case atStart => exact ⟨0, bs2, 0, D', rfl, by first | rfl | go_num, rfl, by omega, Nat.zero_le _, by omega, Stab.Runs.nil _ _, HR.out, HP.out, HW.out⟩
          case round =>
            obtain ⟨av, bv, u, E, rfl, rfl, hav, hbv, han, hg, hr1, hr2, hp, hw⟩ := hrel
            have HA := Lib.hid (show av = bs2 * u ∧ bv = av + bs2 ∧ av ≤ n ∧ n + n - av ≤ gk from ⟨hav, hbv, han, hg⟩)
            have HAU := Lib.hid (show av = bs * (2 * u) ∧ av + bs = bs * (2 * u + 1) from by
              have h1 := HB2.out.1
              have h2 : bs2 * u = bs * (2 * u) := by rw [h1, Nat.mul_comm 2 bs, Nat.mul_assoc]
              have h3 : bs * (2 * u + 1) = bs * (2 * u) + bs := Nat.mul_succ _ _
              omega)
            have HE1 := Lib.hid hr1
            have HE2 := Lib.hid hr2
            have HEP := Lib.hid hp
            have HEW := Lib.hid hw
            have HEZ := Lib.hid (show E.size = n from hp.1.trans HN.out.1.symm)
            obtain ⟨mv, hmv⟩ : ∃ x, x = av + bs := ⟨_, rfl⟩
            have hbs9 := HB2.out
            have hn99 := HN.out
            have u1 : ((av : Int) + (bs : Int)) = (mv : Int) := by omega
            have u2 : IntKind.i64.wrap (mv : Int) = (mv : Int) := IntWalk.i64_in _ (by omega)
            have HMV := Lib.hid hmv
            clear hav hbv han hg hr1 hr2 hp hw hmv hbs9 hn99
            by_cases hle : bv ≤ n
            · have g2 : (bv : Int) ≤ (n : Int) := by omega
              have HLE := Lib.hid hle
              have HC := Lib.hid (HSA.out av mv bv E wr HEW.out HEZ.out (by have h1 := HBS.out; have h2 := HMV.out; omega) (by have h1 := HBS.out; have h2 := HMV.out; have h3 := HA.out; have h4 := HB2.out; omega) (by have h1 := HEZ.out; omega))
              obtain ⟨b2, hb2⟩ : ∃ b2, b2 = bv + bs2 := ⟨_, rfl⟩
              have q3 : ((bv : Int) + (bs2 : Int)) = (b2 : Int) := by omega
              have q4 : IntKind.i64.wrap (b2 : Int) = (b2 : Int) := IntWalk.i64_in _ (by have := HB2.out; omega)
              have HBB := Lib.hid hb2
              clear hle hb2
              go_wp2_with fail
              refine HC.out.mono ?_
              rintro e w1 ⟨rfl, E2, hs2, hm2⟩
              have HO2 := Lib.hid (show SortedIn ltA av bv E2 from by
                have h1 := HAU.out
                have h2 := HMV.out
                have h3 := HA.out
                have h4 := HB2.out
                have h5 := HBS.out
                have h6 := HLE.out
                refine hm2.2 ?_ ?_
                · rw [h1.1]; exact Stab.Runs.sorted h5.1 HE2.out (by omega) (by omega) (by omega)
                · rw [h2, h1.2]; exact Stab.Runs.sorted h5.1 HE2.out (by omega) (by omega) (by omega))
              have HR2 := Lib.hid (show Stab.Runs ltA bs2 0 bv E2 from by
                have h1 := HA.out
                have h2 := h1.1
                have h4 := HB2.out
                have h5 := HBS.out
                have hO := HO2.out
                rw [h2] at hO
                exact Stab.Runs.more (u := u) (d := E) (by omega) (by rw [← h2]; exact HE1.out) (by omega) (fun k hk => hm2.1.2.1 k (.inl (by omega))) hO)
              have HR3 := Lib.hid (show Stab.Runs ltA bs bv n E2 from HE2.out.keep (by have := HA.out; omega) (Nat.le_refl _) (fun k hk _ => hm2.1.2.1 k (.inr hk)))
              have HP2 := Lib.hid (permIn_trans _ _ _ 0 n HEP.out (permIn_mono E E2 av bv 0 n (Nat.zero_le _) HLE.out (by have := HEZ.out; omega) hm2.1))
              clear hm2
              go_wp2
              go_roundg (n + n - bv)
              case measure => have h1 := HA.out; have h3 := HLE.out; have h4 := HB2.out; have h5 := HBS.out; omega
              case rel => exact ⟨bv, b2, u + 1, E2, rfl, by first | rfl | go_num, by have := HA.out; rw [Nat.mul_succ]; omega, HBB.out, HLE.out, Nat.le_refl _, HR2.out, HR3.out, HP2.out, hs2⟩
            · have g2 : ¬ (bv : Int) ≤ (n : Int) := by omega
              have HLE := Lib.hid hle
              obtain ⟨b3, hb3⟩ : ∃ x, x = bs * 2 := ⟨_, rfl⟩
              have q3 : ((bs : Int) * 2) = (b3 : Int) := by omega
              have q4 : IntKind.i64.wrap (b3 : Int) = (b3 : Int) := IntWalk.i64_in _ (by have := HB2.out; omega)
              have HB3 := Lib.hid (show b3 = bs2 from by have := HB2.out; omega)
              clear hle hb3
              by_cases hmn : mv < n
              · have g3 : (mv : Int) < (n : Int) := by omega
                have HMN := Lib.hid hmn
                have HC := Lib.hid (HSA.out av mv n E wr HEW.out HEZ.out (by have h1 := HBS.out; have h2 := HMV.out; omega) hmn (by have h1 := HEZ.out; omega))
                clear hmn
                go_wp2_with fail
                refine HC.out.mono ?_
                rintro e w1 ⟨rfl, E2, hs2, hm2⟩
                have HR2 := Lib.hid (show Stab.Runs ltA bs2 0 n E2 from by
                  have h1 := HA.out
                  have k1 := HAU.out
                  have k2 := HMV.out
                  have h4 := HB2.out
                  have h5 := HBS.out
                  have h6 := HLE.out
                  have hO : SortedIn ltA av n E2 := by
                    refine hm2.2 ?_ ?_
                    · rw [k1.1]; exact Stab.Runs.sorted h5.1 HE2.out (by omega) (by omega) (by have := HMN.out; omega)
                    · rw [k2, k1.2]; exact Stab.Runs.sorted h5.1 HE2.out (by omega) (by omega) (by omega)
                  have h2 := h1.1
                  rw [h2] at hO
                  exact Stab.Runs.more (u := u) (d := E) (by omega) (by rw [← h2]; exact HE1.out) (by omega) (fun k hk => hm2.1.2.1 k (.inl (by omega))) hO)
                have HP2 := Lib.hid (permIn_trans _ _ _ 0 n HEP.out (permIn_mono E E2 av n 0 n (Nat.zero_le _) (Nat.le_refl _) (by have := HEZ.out; omega) hm2.1))
                clear hm2
                go_wp2
                go_roundg (n - bs2)
                case measure => have h1 := HB2.out; have h2 := HBS.out; omega
                case rel => exact ⟨b3, E2, by first | rfl | go_num, by have h1 := HB2.out; have h2 := HBS.out; have h3 := HB3.out; omega, by have h1 := HB2.out; have h3 := HB3.out; omega, by have h3 := HB3.out; omega, by rw [HB3.out]; exact HR2.out, HP2.out, hs2⟩
              · have g3 : ¬ (mv : Int) < (n : Int) := by omega
                have HR2 := Lib.hid (show Stab.Runs ltA bs2 0 n E from by
                  have h1 := HA.out
                  have k1 := HAU.out
                  have k2 := HMV.out
                  have h4 := HB2.out
                  have h5 := HBS.out
                  have h6 := HLE.out
                  have hO : SortedIn ltA av n E := by rw [k1.1]; exact Stab.Runs.sorted h5.1 HE2.out (by omega) (by omega) (Nat.le_refl _)
                  have h2 := h1.1
                  rw [h2] at hO
                  exact Stab.Runs.more (u := u) (d := E) (by omega) (by rw [← h2]; exact HE1.out) (by omega) (fun k hk => rfl) hO)
                clear hmn
                go_wp2
                go_roundg (n - bs2)
                case measure => have h1 := HB2.out; have h2 := HBS.out; omega
                case rel => exact ⟨b3, E, by first | rfl | go_num, by have h1 := HB2.out; have h2 := HBS.out; have h3 := HB3.out; omega, by have h1 := HB2.out; have h3 := HB3.out; omega, by have h3 := HB3.out; omega, by rw [HB3.out]; exact HR2.out, HEP.out, HEW.out⟩
        · have g1 : ¬ (bs : Int) < (n : Int) := by omega
          have HO := Lib.hid (show SortedIn ltA 0 n D' from HR.out.all (by omega))
          clear hlt
          go_wp2
          go_end0
          exact ⟨rfl, D', HW.out, HP.out, HO.out⟩
end
set_option maxHeartbeats 1000000 in
theorem ins_nil (w : World) : Calls Try.prog 74 #[.slice none 0 0, .int .i64 0, .int .i64 0, .func (.func 32) #[] #[]] w fun e w' => e = .returned (.tuple #[]) ∧ w' = w := by
  go_enter Try.func74, Try.ntmps74
  go_wp2
  go_loopw [8] (fun iv wr => iv = .int .i64 1 ∧ wr = w) (fun _ _ => 0)
  case atStart => exact ⟨rfl, rfl⟩
  case round =>
    obtain ⟨rfl, rfl⟩ := hrel
    go_wp2
    go_end0
    exact ⟨rfl, rfl⟩
set_option maxHeartbeats 1000000 in
theorem stable_nil (w : World) : Calls Try.prog 59 #[.slice none 0 0, .int .i64 0, .func (.func 32) #[] #[]] w fun e w' => e = .returned (.tuple #[]) ∧ w' = w := by
  have HI := Lib.hid (ins_nil w)
  go_enter Try.func59, Try.ntmps59
  go_wp2
  go_loopw [7, 8] (fun av bv wr => av = .int .i64 0 ∧ bv = .int .i64 20 ∧ wr = w) (fun _ _ _ => 0)
  case atStart => exact ⟨rfl, rfl, rfl⟩
  case round =>
    obtain ⟨rfl, rfl, rfl⟩ := hrel
    go_wp2_with fail
    refine HI.out.mono ?_
    rintro e w1 ⟨rfl, rfl⟩
    go_wp2
    go_loopw [6] (fun bv wr => bv = .int .i64 20 ∧ wr = w1) (fun _ _ => 0)
    case atStart => exact ⟨rfl, rfl⟩
    case round =>
      obtain ⟨rfl, rfl⟩ := hrel
      go_wp2
      go_end0
      exact ⟨rfl, rfl⟩
set_option maxHeartbeats 1000000 in
theorem sortStable_any (v : Value) (l : List Pl.Ar) (base : Nat) (w : World) (ho : OE 39 base w v l) (hl : l.length < 100000000) :
    Calls Try.prog 31 #[v, .func (.func 32) #[] #[]] w fun e w' =>
      e = .returned (.tuple #[]) ∧ ∃ s : List Pl.Ar, s.Perm l ∧ s.Pairwise (fun a b => ltA b a = false) ∧ OE 39 base w' v s ∧ w.grownBy w' v.ownBlock := by
  rcases ho.own.2 with ⟨rfl, h0⟩ | ⟨g, cap, cur, rfl, hb, _⟩
  · obtain rfl := List.eq_nil_of_length_eq_zero h0
    have HC := Lib.hid (stable_nil w)
    clear ho hl
    go_enter Try.func31, Try.ntmps31
    go_wp2_with fail
    refine HC.out.mono ?_
    rintro e w1 ⟨rfl, rfl⟩
    go_wp2
    go_end0
    exact ⟨rfl, [], List.Perm.refl _, List.Pairwise.nil, OE.nilS _ _ _, World.grownBy.refl _ _⟩
  · have hown : w.ownsRow base 39 6 (.slice (some ⟨g, 0, none⟩) l.length cap) l.length (l.flatMap encA.enc) := ho.own
    have hH := holdsK_of_own (enc := encA.enc) encA.len encA.pos hown
    have hcon := stable_any (rowA hH (hown.lt g rfl).2) cap l.toArray w (SWK.start hH) rfl (by simpa using hl)
    rw [show l.toArray.size = l.length by simp] at hcon
    have HC := Lib.hid hcon
    have HO := Lib.hid hown
    clear hcon hown hH ho hl
    go_enter Try.func31, Try.ntmps31
    go_wp2_with fail
    refine HC.out.mono ?_
    rintro e w' ⟨rfl, d', ⟨n, os, hw⟩, hp, hs⟩
    have hsz : d'.size = l.length := by have := hp.1; simpa using this
    obtain ⟨q1, q2⟩ := own_sorted (enc := encA.enc) encA.len encA.pos HO.out hsz hw
    have HQ := Lib.hid (show OE 39 base w' (.slice (some ⟨g, 0, none⟩) l.length cap) d'.toList from by
      unfold OE
      rw [show d'.toList.length = l.length by simpa using hsz]
      exact q1)
    have HQ2 := Lib.hid q2
    have HP := Lib.hid (show d'.toList.Perm l from by
      have := perm_of (d := l.toArray) (d' := d') (by rw [show l.toArray.size = l.length by simp]; exact hp)
      simpa using this)
    have HS := Lib.hid (sorted_of hs (by simpa using hsz))
    clear hw hp hs hsz q1 q2
    go_wp2
    go_end0
    exact ⟨rfl, d'.toList, HP.out, HS.out, HQ.out, HQ2.out⟩
end Go.Proofs.Ytcacicgkebcdkaa
