/-
  PlStab, packed: what the claim needs of them.
-/
import Derived.Test.YtdkejfjcchlnpaaGreatFn21
set_option maxHeartbeats 40000000
open Go.Lib (hid)
set_option linter.unusedSimpArgs false
set_option linter.unusedVariables false
set_option maxRecDepth 100000
namespace Go.Proofs.YtdkejfjcchlnpaaGreat
open Go.RowKit Go.Ox Go.Shelf Go.Sort
section
variable {w0 : World} {blk off : Nat} {d0 : Array Pl.Ar}
theorem b3E (R : RowK encA.enc 6 w0 blk off d0) (cap a b : Nat) (D : Array Pl.Ar) (W : World) (S : SWK encA.enc 6 w0 blk off D W) (hs : D.size = d0.size) (hab : a ≤ b) (hb : b ≤ D.size) (hsz : D.size < 1000000000) :
 Calls Tryz.prog 192 #[.slice (some ⟨blk, off, none⟩) D.size cap, .int .i64 a, .int .i64 b, .func (.func 171) #[] #[]] W fun e w' => e = .returned (.tuple #[]) ∧ ∃ D', SWK encA.enc 6 w0 blk off D' w' ∧ PermIn a b D D' ∧ SortedIn ltA a b D' := by
 have h := insertionSort_holds (lt := ltA) swoA D a b hab hb;have hcon := AnyQ.insertionSortCmpFunc Tryz.insA 6 Tryz.isAgg144 Tryz.sizeOf144 encA.enc encA.len encA.one Pl.a6M 171 #[] blk off cap a b D W egA (a7G blk off _ W) (S.holds R.hblk R.hH hs) (S.lt R.hblk) hab hb (by omega)
 refine hcon.mono ?_;rintro e w' ⟨h1, n, os, rfl⟩;exact ⟨h1, _, S.on R.hblk n _ os h.1.1, h.1, h.2⟩
set_option maxRecDepth 1000000 in
theorem a8F (R : RowK encA.enc 6 w0 blk off d0) (cap : Nat) (D : Array Pl.Ar) (W : World) (S : SWK encA.enc 6 w0 blk off D W) (hs : D.size = d0.size) (hsz : D.size < 100000000) :
 Calls Tryz.prog 188 #[.slice (some ⟨blk, off, none⟩) D.size cap, .int .i64 D.size, .func (.func 171) #[] #[]] W fun e w' => e = .returned (.tuple #[]) ∧ ∃ D', SWK encA.enc 6 w0 blk off D' w' ∧ PermIn 0 D.size D D' ∧ SortedIn ltA 0 D.size D' := by
 have HS := hid S;have HRR := hid R;have HIA := hid (fun a b D' W' (S' : SWK encA.enc 6 w0 blk off D' W') (hz : D'.size = D.size) h1 h2 => hz ▸ b3E R cap a b D' W' S' (hz.trans hs) h1 h2 (by omega))
 have HSA := hid (fun a m b D' W' (S' : SWK encA.enc 6 w0 blk off D' W') (hz : D'.size = D.size) h1 h2 h3 => hz ▸ a3C R (a7G blk off _ w0) cap (b - a) a m b D' W' (Nat.le_refl _) S' (hz.trans hs) h1 h2 h3 (by omega))
 obtain ⟨n, hn⟩ : ∃ n, n = D.size := ⟨_, rfl⟩;rw [← hn] at HIA HSA ⊢;have HN := hid (show n = D.size ∧ n < 100000000 from ⟨hn, by omega⟩)
 have hn9 : (n : Int) < 100000000 := by omega
 clear S R hs hsz hn
 go_enter Tryz.func188, Tryz.ntmps188
 go_wp2
 go_loopg [7, 8] (n + 40) (fun g va vb wr => ∃ (av bv u : Nat) (D' : Array Pl.Ar), va = .int .i64 (av : Int) ∧ vb = .int .i64 (bv : Int) ∧ av = 20 * u ∧ bv = av + 20 ∧ av ≤ n ∧ n + 40 - bv ≤ g ∧ Stab.a0V ltA 20 0 av D' ∧ PermIn 0 n D D' ∧ SWK encA.enc 6 w0 blk off D' wr)
 case atStart => exact ⟨0, 20, 0, D, rfl, rfl, rfl, rfl, Nat.zero_le _, by omega, Stab.a0V.nil _ _, permIn_refl D 0 n, HS.o⟩
 case round =>
 obtain ⟨av, bv, u, D', rfl, rfl, hav, hbv, han, hg, hr, hp, hw⟩ := hrel;have HA := hid (show av = 20 * u ∧ bv = av + 20 ∧ av ≤ n ∧ n + 40 - bv ≤ gk from ⟨hav, hbv, han, hg⟩);have HR := hid hr;have HP := hid hp;have HW := hid hw;have HZ := hid (show D'.size = n from hp.1.trans HN.o.1.symm);clear hav hbv han hg hr hp hw
 by_cases hle : bv ≤ n
 · have g1 : (bv : Int) ≤ (n : Int) := by omega
   have HLE := hid hle;have HC := hid (HIA.o av bv D' wr HW.o HZ.o (by have := HA.o; omega) (by have h1 := HZ.o; omega))
   obtain ⟨b2, hb2⟩ : ∃ b2, b2 = bv + 20 := ⟨_, rfl⟩;have q1 : ((bv : Int) + 20) = (b2 : Int) := by omega
   have q2 : IntKind.i64.wrap (b2 : Int) = (b2 : Int) := IntWalk.i64_in _ (by omega)
   have HB2 := hid hb2;clear hle hb2
   go_wp2_with fail
   refine HC.o.mono ?_;rintro e w1 ⟨rfl, D2, hs2, hp2, ho2⟩
   have HR2 := hid (show Stab.a0V ltA 20 0 bv D2 from by
    have h1 := HA.o;have h2 := h1.1
    refine Stab.a0V.more (u := u) (d := D') (by omega) (by rw [← h2]; exact HR.o) (by omega) (fun k hk => hp2.2.1 k (.inl (by omega))) (by rw [← h2]; exact ho2))
   have HP2 := hid (permIn_trans _ _ _ 0 n HP.o (permIn_mono D' D2 av bv 0 n (Nat.zero_le _) HLE.o (by have := HZ.o; omega) hp2))
   clear hp2 ho2
   go_wp2
   go_roundg (n + 40 - b2)
   case measure => have h1 := HA.o; have h2 := HB2.o; have h3 := HLE.o; omega
   case rel => exact ⟨bv, b2, u + 1, D2, rfl, rfl, by have := HA.o; omega, HB2.o, HLE.o, Nat.le_refl _, HR2.o, HP2.o, hs2⟩
 have g1 : ¬ (bv : Int) ≤ (n : Int) := by omega
 have HC := hid (HIA.o av n D' wr HW.o HZ.o HA.o.2.2.1 (by have h1 := HZ.o; omega))
 have HLE := hid hle;clear hle
 go_wp2_with fail
 refine HC.o.mono ?_;rintro e w1 ⟨rfl, D2, hs2, hp2, ho2⟩
 have HR2 := hid (show Stab.a0V ltA 20 0 n D2 from by
  have h1 := HA.o;have h2 := h1.1;have h3 := HLE.o
  refine Stab.a0V.more (u := u) (d := D') (by omega) (by rw [← h2]; exact HR.o) (by omega) (fun k hk => hp2.2.1 k (.inl (by omega))) (by rw [← h2]; exact ho2))
 have HP2 := hid (permIn_trans _ _ _ 0 n HP.o (permIn_mono D' D2 av n 0 n (Nat.zero_le _) (Nat.le_refl _) (by have := HZ.o; omega) hp2))
 have HS2 := hid hs2;clear hp2 ho2 hs2 HC HR HP HW HZ HA HLE g1
 go_wp2
 go_loopg [6] n (fun g v6 wr => ∃ (bs : Nat) (D' : Array Pl.Ar), v6 = .int .i64 (bs : Int) ∧ 0 < bs ∧ bs < 400000000 ∧ n - bs ≤ g ∧ Stab.a0V ltA bs 0 n D' ∧ PermIn 0 n D D' ∧ SWK encA.enc 6 w0 blk off D' wr)
 case atStart => exact ⟨20, D2, rfl, by omega, by omega, by omega, HR2.o, HP2.o, HS2.o⟩
 case round =>
 obtain ⟨bs, D', rfl, hb0, hb1, hg, hr, hp, hw⟩ := hrel;have HBS := hid (show 0 < bs ∧ bs < 400000000 ∧ n - bs ≤ gk from ⟨hb0, hb1, hg⟩);have HR := hid hr;have HP := hid hp;have HW := hid hw;have HZ := hid (show D'.size = n from hp.1.trans HN.o.1.symm);clear hb0 hb1 hg hr hp hw HR2 HP2 HS2
 by_cases hlt : bs < n
 · have g1 : (bs : Int) < (n : Int) := by omega
   obtain ⟨bs2, hbs2⟩ : ∃ x, x = 2 * bs := ⟨_, rfl⟩;have q1 : ((2 : Int) * (bs : Int)) = (bs2 : Int) := by omega
   have q2 : IntKind.i64.wrap (bs2 : Int) = (bs2 : Int) := IntWalk.i64_in _ (by have := HBS.o; omega)
   have HB2 := hid (show bs2 = 2 * bs ∧ bs < n ∧ bs2 < 200000000 from ⟨hbs2, hlt, by have := HN.o; omega⟩)
   clear hbs2 hlt
   go_wp2
   go_loopg [7, 8] (n + n) (fun g va vb wr => ∃ (av bv u : Nat) (E : Array Pl.Ar), va = .int .i64 (av : Int) ∧ vb = .int .i64 (bv : Int) ∧ av = bs2 * u ∧ bv = av + bs2 ∧ av ≤ n ∧ n + n - av ≤ g ∧ Stab.a0V ltA bs2 0 av E ∧ Stab.a0V ltA bs av n E ∧ PermIn 0 n D E ∧ SWK encA.enc 6 w0 blk off E wr)
   case atStart => exact ⟨0, bs2, 0, D', rfl, by first | rfl | go_num, rfl, by omega, Nat.zero_le _, by omega, Stab.a0V.nil _ _, HR.o, HP.o, HW.o⟩
   case round =>
   obtain ⟨av, bv, u, E, rfl, rfl, hav, hbv, han, hg, hr1, hr2, hp, hw⟩ := hrel;have HA := hid (show av = bs2 * u ∧ bv = av + bs2 ∧ av ≤ n ∧ n + n - av ≤ gk from ⟨hav, hbv, han, hg⟩)
   have HAU := hid (show av = bs * (2 * u) ∧ av + bs = bs * (2 * u + 1) from by
    have h1 := HB2.o.1;have h2 : bs2 * u = bs * (2 * u) := by rw [h1, Nat.mul_comm 2 bs, Nat.mul_assoc]
    have h3 : bs * (2 * u + 1) = bs * (2 * u) + bs := Nat.mul_succ _ _
    omega)
   have HE1 := hid hr1;have HE2 := hid hr2;have HEP := hid hp;have HEW := hid hw;have HEZ := hid (show E.size = n from hp.1.trans HN.o.1.symm);obtain ⟨mv, hmv⟩ : ∃ x, x = av + bs := ⟨_, rfl⟩;have hbs9 := HB2.o;have hn99 := HN.o;have u1 : ((av : Int) + (bs : Int)) = (mv : Int) := by omega
   have u2 : IntKind.i64.wrap (mv : Int) = (mv : Int) := IntWalk.i64_in _ (by omega)
   have HMV := hid hmv;clear hav hbv han hg hr1 hr2 hp hw hmv hbs9 hn99
   by_cases hle : bv ≤ n
   · have g2 : (bv : Int) ≤ (n : Int) := by omega
     have HLE := hid hle;have HC := hid (HSA.o av mv bv E wr HEW.o HEZ.o (by have h1 := HBS.o; have h2 := HMV.o; omega) (by have h1 := HBS.o; have h2 := HMV.o; have h3 := HA.o; have h4 := HB2.o; omega) (by have h1 := HEZ.o; omega))
     obtain ⟨b2, hb2⟩ : ∃ b2, b2 = bv + bs2 := ⟨_, rfl⟩;have q3 : ((bv : Int) + (bs2 : Int)) = (b2 : Int) := by omega
     have q4 : IntKind.i64.wrap (b2 : Int) = (b2 : Int) := IntWalk.i64_in _ (by have := HB2.o; omega)
     have HBB := hid hb2;clear hle hb2
     go_wp2_with fail
     refine HC.o.mono ?_;rintro e w1 ⟨rfl, E2, hs2, hm2⟩
     have HO2 := hid (show SortedIn ltA av bv E2 from by
      have h1 := HAU.o;have h2 := HMV.o;have h3 := HA.o;have h4 := HB2.o;have h5 := HBS.o;have h6 := HLE.o;refine hm2.2 ?_ ?_
      · rw [h1.1]; exact Stab.a0V.sorted h5.1 HE2.o (by omega) (by omega) (by omega)
      rw [h2, h1.2]; exact Stab.a0V.sorted h5.1 HE2.o (by omega) (by omega) (by omega))
     have HR2 := hid (show Stab.a0V ltA bs2 0 bv E2 from by
      have h1 := HA.o;have h2 := h1.1;have h4 := HB2.o;have h5 := HBS.o;have hO := HO2.o;rw [h2] at hO
      exact Stab.a0V.more (u := u) (d := E) (by omega) (by rw [← h2]; exact HE1.o) (by omega) (fun k hk => hm2.1.2.1 k (.inl (by omega))) hO)
     have HR3 := hid (show Stab.a0V ltA bs bv n E2 from HE2.o.keep (by have := HA.o; omega) (Nat.le_refl _) (fun k hk _ => hm2.1.2.1 k (.inr hk)))
     have HP2 := hid (permIn_trans _ _ _ 0 n HEP.o (permIn_mono E E2 av bv 0 n (Nat.zero_le _) HLE.o (by have := HEZ.o; omega) hm2.1))
     clear hm2
     go_wp2
     go_roundg (n + n - bv)
     case measure => have h1 := HA.o; have h3 := HLE.o; have h4 := HB2.o; have h5 := HBS.o; omega
     case rel => exact ⟨bv, b2, u + 1, E2, rfl, by first | rfl | go_num, by have := HA.o; rw [Nat.mul_succ]; omega, HBB.o, HLE.o, Nat.le_refl _, HR2.o, HR3.o, HP2.o, hs2⟩
   have g2 : ¬ (bv : Int) ≤ (n : Int) := by omega
   have HLE := hid hle;obtain ⟨b3, hb3⟩ : ∃ x, x = bs * 2 := ⟨_, rfl⟩;have q3 : ((bs : Int) * 2) = (b3 : Int) := by omega
   have q4 : IntKind.i64.wrap (b3 : Int) = (b3 : Int) := IntWalk.i64_in _ (by have := HB2.o; omega)
   have HB3 := hid (show b3 = bs2 from by have := HB2.o; omega)
   clear hle hb3
   by_cases hmn : mv < n
   · have g3 : (mv : Int) < (n : Int) := by omega
     have HMN := hid hmn;have HC := hid (HSA.o av mv n E wr HEW.o HEZ.o (by have h1 := HBS.o; have h2 := HMV.o; omega) hmn (by have h1 := HEZ.o; omega))
     clear hmn
     go_wp2_with fail
     refine HC.o.mono ?_;rintro e w1 ⟨rfl, E2, hs2, hm2⟩
     have HR2 := hid (show Stab.a0V ltA bs2 0 n E2 from by
      have h1 := HA.o;have k1 := HAU.o;have k2 := HMV.o;have h4 := HB2.o;have h5 := HBS.o;have h6 := HLE.o
      have hO : SortedIn ltA av n E2 := by
       refine hm2.2 ?_ ?_
       · rw [k1.1]; exact Stab.a0V.sorted h5.1 HE2.o (by omega) (by omega) (by have := HMN.o; omega)
       rw [k2, k1.2]; exact Stab.a0V.sorted h5.1 HE2.o (by omega) (by omega) (by omega)
      have h2 := h1.1;rw [h2] at hO
      exact Stab.a0V.more (u := u) (d := E) (by omega) (by rw [← h2]; exact HE1.o) (by omega) (fun k hk => hm2.1.2.1 k (.inl (by omega))) hO)
     have HP2 := hid (permIn_trans _ _ _ 0 n HEP.o (permIn_mono E E2 av n 0 n (Nat.zero_le _) (Nat.le_refl _) (by have := HEZ.o; omega) hm2.1))
     clear hm2
     go_wp2
     go_roundg (n - bs2)
     case measure => have h1 := HB2.o; have h2 := HBS.o; omega
     case rel => exact ⟨b3, E2, by first | rfl | go_num, by have h1 := HB2.o; have h2 := HBS.o; have h3 := HB3.o; omega, by have h1 := HB2.o; have h3 := HB3.o; omega, by have h3 := HB3.o; omega, by rw [HB3.o]; exact HR2.o, HP2.o, hs2⟩
   have g3 : ¬ (mv : Int) < (n : Int) := by omega
   have HR2 := hid (show Stab.a0V ltA bs2 0 n E from by
    have h1 := HA.o;have k1 := HAU.o;have k2 := HMV.o;have h4 := HB2.o;have h5 := HBS.o;have h6 := HLE.o;have hO : SortedIn ltA av n E := by rw [k1.1]; exact Stab.a0V.sorted h5.1 HE2.o (by omega) (by omega) (Nat.le_refl _)
    have h2 := h1.1;rw [h2] at hO
    exact Stab.a0V.more (u := u) (d := E) (by omega) (by rw [← h2]; exact HE1.o) (by omega) (fun k hk => rfl) hO)
   clear hmn
   go_wp2
   go_roundg (n - bs2)
   case measure => have h1 := HB2.o; have h2 := HBS.o; omega
   case rel => exact ⟨b3, E, by first | rfl | go_num, by have h1 := HB2.o; have h2 := HBS.o; have h3 := HB3.o; omega, by have h1 := HB2.o; have h3 := HB3.o; omega, by have h3 := HB3.o; omega, by rw [HB3.o]; exact HR2.o, HEP.o, HEW.o⟩
 have g1 : ¬ (bs : Int) < (n : Int) := by omega
 have HO := hid (show SortedIn ltA 0 n D' from HR.o.all (by omega))
 clear hlt
 go_wp2
 go_end0
 exact ⟨rfl, D', HW.o, HP.o, HO.o⟩
end
theorem b3F (w : World) : Calls Tryz.prog 192 #[.slice none 0 0, .int .i64 0, .int .i64 0, .func (.func 171) #[] #[]] w fun e w' => e = .returned (.tuple #[]) ∧ w' = w := by
 go_enter Tryz.func192, Tryz.ntmps192
 go_wp2
 go_loopw [8] (fun iv wr => iv = .int .i64 1 ∧ wr = w) (fun _ _ => 0)
 case atStart => exact ⟨rfl, rfl⟩
 case round =>
 obtain ⟨rfl, rfl⟩ := hrel
 go_wp2
 go_end0
 exact ⟨rfl, rfl⟩
theorem a8G (w : World) : Calls Tryz.prog 188 #[.slice none 0 0, .int .i64 0, .func (.func 171) #[] #[]] w fun e w' => e = .returned (.tuple #[]) ∧ w' = w := by
 have HI := hid (b3F w)
 go_enter Tryz.func188, Tryz.ntmps188
 go_wp2
 go_loopw [7, 8] (fun av bv wr => av = .int .i64 0 ∧ bv = .int .i64 20 ∧ wr = w) (fun _ _ _ => 0)
 case atStart => exact ⟨rfl, rfl, rfl⟩
 case round =>
 obtain ⟨rfl, rfl, rfl⟩ := hrel
 go_wp2_with fail
 refine HI.o.mono ?_;rintro e w1 ⟨rfl, rfl⟩
 go_wp2
 go_loopw [6] (fun bv wr => bv = .int .i64 20 ∧ wr = w1) (fun _ _ => 0)
 case atStart => exact ⟨rfl, rfl⟩
 case round =>
 obtain ⟨rfl, rfl⟩ := hrel
 go_wp2
 go_end0
 exact ⟨rfl, rfl⟩
theorem a2t (v : Value) (l : List Pl.Ar) (base : Nat) (w : World) (ho : OE 144 base w v l) (hl : l.length < 100000000) :
 Calls Tryz.prog 170 #[v, .func (.func 171) #[] #[]] w fun e w' =>
  e = .returned (.tuple #[]) ∧ ∃ s : List Pl.Ar, s.Perm l ∧ s.Pairwise (fun a b => ltA b a = false) ∧ OE 144 base w' v s ∧ w.grownBy w' v.ownBlock := by
 rcases ho.own.2 with ⟨rfl, h0⟩ | ⟨g, cap, cur, rfl, hb, _⟩
 · obtain rfl := List.eq_nil_of_length_eq_zero h0
   have HC := hid (a8G w);clear ho hl
   go_enter Tryz.func170, Tryz.ntmps170
   go_wp2_with fail
   refine HC.o.mono ?_;rintro e w1 ⟨rfl, rfl⟩
   go_wp2
   go_end0
   exact ⟨rfl, [], List.Perm.refl _, List.Pairwise.nil, OE.a2F _ _ _, World.grownBy.refl _ _⟩
 · have hown : w.ownsRow base 144 6 (.slice (some ⟨g, 0, none⟩) l.length cap) l.length (l.flatMap encA.enc) := ho.own
   have hH := a0R (enc := encA.enc) encA.len encA.pos hown;have hcon := a8F (rowA hH (hown.lt g rfl).2) cap l.toArray w (SWK.start hH) rfl (by simpa using hl)
   rw [show l.toArray.size = l.length by simp] at hcon
   have HC := hid hcon;have HO := hid hown;clear hcon hown hH ho hl
   go_enter Tryz.func170, Tryz.ntmps170
   go_wp2_with fail
   refine HC.o.mono ?_;rintro e w' ⟨rfl, d', ⟨n, os, hw⟩, hp, hs⟩;have hsz : d'.size = l.length := by have := hp.1; simpa using this
   obtain ⟨q1, q2⟩ := a1k (enc := encA.enc) encA.len encA.pos HO.o hsz hw
   have HQ := hid (show OE 144 base w' (.slice (some ⟨g, 0, none⟩) l.length cap) d'.toList from by
    unfold OE;rw [show d'.toList.length = l.length by simpa using hsz]
    exact q1)
   have HQ2 := hid q2
   have HP := hid (show d'.toList.Perm l from by
    have := a5u (d := l.toArray) (d' := d') (by rw [show l.toArray.size = l.length by simp]; exact hp)
    simpa using this)
   have HS := hid (a2C hs (by simpa using hsz))
   clear hw hp hs hsz q1 q2
   go_wp2
   go_end0
   exact ⟨rfl, d'.toList, HP.o, HS.o, HQ.o, HQ2.o⟩
end Go.Proofs.YtdkejfjcchlnpaaGreat
