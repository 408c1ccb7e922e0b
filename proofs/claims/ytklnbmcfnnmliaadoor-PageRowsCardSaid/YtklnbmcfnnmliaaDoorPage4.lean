/-
  The walks of oxbowref06.Row, of page.Unrow, of the law's own 'same'.
-/
import Derived.Test.YtklnbmcfnnmliaaDoorPage3
namespace Go.Proofs.YtklnbmcfnnmliaaDoor
open Go.RowKit Go.Ox
attribute [local irreducible] OB RB

theorem drop_go (b : List UInt8) (k : Nat) : (b.drop (42 * k)).drop 42 = b.drop (42 * (k + 1)) := by
  rw [List.drop_drop]; congr 1
theorem piece_go (b : List UInt8) {k : Nat} (h : 42 < (b.drop (42 * k)).length) : [1] ++ (b.drop (42 * k)).take 42 = pieceL b k := by
  unfold pieceL
  rw [if_pos (by rw [List.length_drop] at h; omega)]; rfl
theorem piece_end (b : List UInt8) {k : Nat} (h : ¬ 42 < (b.drop (42 * k)).length) : [0] ++ b.drop (42 * k) = pieceL b k := by
  unfold pieceL
  rw [if_neg (by rw [List.length_drop] at h; omega), List.take_of_length_le (by omega)]; rfl
theorem rows_go (b : List UInt8) {k : Nat} (hk : k < pages b.length) (h : 42 < (b.drop (42 * k)).length) : k + 1 < pages b.length :=
  (pages_last b hk).1 (by rw [List.length_drop] at h; omega)
theorem rows_end (b : List UInt8) {k : Nat} (hk : k < pages b.length) (h : ¬ 42 < (b.drop (42 * k)).length) : k + 1 = pages b.length := by
  have h2 : ¬ k + 1 < pages b.length := fun h3 => h (by rw [List.length_drop]; have := (pages_last b hk).2 h3; omega)
  omega

def RowR (n : Nat) (b : List UInt8) (w : World) (e : Ending) (w' : World) : Prop :=
  ∃ u vs, e = .returned u ∧ Rwo 22 w.heap.size 1 w' u ((rowL n b).map byteRow) vs ∧ Ext w w'

set_option maxRecDepth 100000 in
set_option maxHeartbeats 2000000 in
theorem rrow_any (n : Nat) (v : Value) (b : List UInt8) (w : World) (hv : RB w v b) (h1 : 1 ≤ n) (h2 : n + pages b.length ≤ 4611686018427387904) (hb : b.length ≤ 65536) :
    Calls Tryd.prog 15 #[.int .i64 n, v] w (RowR n b w) := by
  obtain ⟨A, c, rfl⟩ := hv.form
  have hp1 := pages_pos b.length
  have hp2 := pages_le b.length
  have HTK := Lib.hid (fun k h => @rowL_take n b k h)
  have HPL := Lib.hid (fun k => pieceL_len b k)
  have HEND : Hid ((rowL n b).take (pages b.length) = rowL n b) := Lib.hid (by exact List.take_of_length_le (by rw [rowL_len]; exact Nat.le_refl _))
  have HPG := Lib.hid (fun k h => @piece_go b k h)
  have HPE := Lib.hid (fun k h => @piece_end b k h)
  have HRG := Lib.hid (fun k hk h => @rows_go b k hk h)
  have HRE := Lib.hid (fun k hk h => @rows_end b k hk h)
  have hpl := Lib.hid (pcs_len b)
  have hV0 : RB w (.slice A b.length c) (b.drop (42 * 0)) := by simpa using hv
  have HV0 := Lib.hid hV0
  have HDG := Lib.hid (fun k => drop_go b k)
  clear hv hV0
  have hd0 : Hid ((b.drop (42 * 0)).length = b.length) := Lib.hid (by simp)
  have hdl : Hid (∀ k, (b.drop (42 * k)).length = b.length - 42 * k) := Lib.hid (fun k => List.length_drop)
  generalize hpp : pages b.length = p at *
  have HPP := Lib.hid hpp
  clear hpp
  go_enter Tryd.func15, Tryd.ntmps15
  go_wp2
  go_loopw [0, 1, 5] (fun t s y wr => ∃ (k : Nat) (d : List UInt8) (rows : List (Nat × List Value)) (vs : List Value), k < p ∧ t = .int .i64 ((n + k : Nat) : Int) ∧ d = b.drop (42 * k) ∧ RB w s d ∧ rows = ((rowL n b).take k).map byteRow ∧ Rwo 22 w.heap.size 1 wr y rows vs ∧ Ext w wr) (fun t _ _ _ => n + p - (intOf t).toNat)
  case atStart => exact ⟨0, b.drop (42 * 0), [], [], by omega, rfl, rfl, HV0.out, rfl, Rwo.nil _ _ _ _, Ext.refl _⟩
  case round =>
    obtain ⟨k, d, rows, vs, hk, rfl, hd, hs, hrows, hrow, hext⟩ := hrel
    have hrl := hrow.own
    obtain ⟨As, cs, rfl⟩ := hs.form
    have HRW := Lib.hid hrows
    have HRL : Hid (rows.length = k) := Lib.hid (by rw [hrows, List.length_map, List.length_take, rowL_len, HPP.out]; omega)
    obtain ⟨Ay, cy, rfl⟩ := (Rd.of_own hrl).form
    have HROW := Lib.hid hrow
    have HD := Lib.hid hd
    have HS := Lib.hid hs
    have hby0 : Hid (byteV 0 = .int .u8 0) := Lib.hid (by unfold byteV n8; rfl)
    have hby1 : Hid (byteV 1 = .int .u8 1) := Lib.hid (by unfold byteV n8; rfl)
    have hdn : d.length ≤ 65536 := by rw [hd, hdl.out]; omega
    have hsnc := hs.nc.1
    have hnk1 : ((n + k : Nat) : Int) < 4611686018427387904 := by omega
    clear hrows hrow hd hs
    by_cases hlt : 42 < d.length
    · have HK1 := Lib.hid (HRG.out k hk (by rw [← HD.out]; exact hlt))
      have HPC := Lib.hid (HPG.out k (by rw [← HD.out]; exact hlt))
      rw [← HD.out] at HPC
      have hcut1 := Lib.hid (HS.out.takeS (k := 42) (by omega))
      obtain ⟨bs, os, rfl, hz⟩ := HS.out.byteS (k := 0) (by omega)
      clear hz
      have hcut2 := HS.out.dropS (k := 42) (by omega)
      rw [if_neg (by omega)] at hcut2
      have hcut2 : RB w (.slice (some ⟨bs, os + 42, none⟩) (d.length - 42) (cs - 42)) (d.drop 42) := by simpa [Addr.add] using hcut2
      have HC2 := Lib.hid hcut2
      clear hcut2
      have hg1 : (42 : Int) < (d.length : Int) := by omega
      have hg2 : (42 : Int) ≤ (cs : Int) := by omega
      have hg3 : ¬ cs = 42 := by omega
      have hg4 : (42 : Int) ≤ (d.length : Int) := by omega
      have hl42 : Hid ((d.take 42).length = 42) := Lib.hid (by rw [List.length_take]; omega)
      go_wp2_with (first
        | (refine wpList_appBB rfl elemB wr _ (.tmp 11) (.tmp 13) rfl _ [1] rfl (OB.lit1 wr _ _ hby1.out) ((Ext.refl wr).alloc _) _ (d.take 42) rfl (hcut1.out.ext (hext.alloc _)) (by rw [hl42.out]; decide) ?_; intro v5 w5 ho5 he5 hg5; rw [HPC.out] at ho5; obtain ⟨A5, c5, rfl⟩ := ho5.form; have HO5 := Lib.hid ho5; have HE5 := Lib.hid he5; clear ho5 he5 hg5)
        | (go_at_call 12; refine (rpput_z _ (n + k) _ (pieceL b k) _ rfl (by omega) HO5.out.rb (HPL.out k)).mono ?_; rintro e w6 ⟨v6, rfl, ho6, he6⟩; obtain ⟨A6, c6, rfl⟩ := ho6.form; have HO6 := Lib.hid ho6; have HE6 := Lib.hid he6; clear ho6 he6)
        | (refine wpList_app rfl elemS _ (.tmp 9) (.tmp 16) rfl w.heap.size _ rows.length vs rfl (ownsRow_ext hrl ((HE5.out.trans HE6.out).alloc _)) _ 1 [.slice A6 (pageP (n + k) (pieceL b k)).length c6] rfl (Rd.lit _ _ _ 1 rfl (by unfold maxLen; omega)) (by intro u hu; simp at hu; subst hu; rfl) (by rw [HRL.out]; omega) (by rw [HRL.out]; unfold maxLen; omega) (by have := hext.size; have := (HE5.out.trans HE6.out).size; simp; omega) ?_; intro v8 w8 ha; have HRO := Lib.hid (Rwo.push (HROW.out.ext (HE5.out.trans HE6.out)) (by omega) (RB.rd HO6.out.rb) (fun _ => away_new hrl HE5.out HO6.out.own) ha); have HEX := Lib.hid (ha.ext (hext.trans ((HE5.out.trans HE6.out).alloc _)) rfl (ownsRow_ext hrl ((HE5.out.trans HE6.out).alloc _))); clear ha))
      go_roundw
      case rel => exact ⟨k + 1, d.drop 42, _, _, HK1.out, by go_num, by rw [HD.out, HDG.out], HC2.out, by rw [HTK.out k (by rw [hpl.out]; exact hk), ← HRW.out], HRO.out, HEX.out⟩
      case measure => simp [intOf]; omega
    · have HK1 := Lib.hid (HRE.out k hk (by rw [← HD.out]; exact hlt))
      have HPC := Lib.hid (HPE.out k (by rw [← HD.out]; exact hlt))
      rw [← HD.out] at HPC
      have hg1 : ¬ (42 : Int) < (d.length : Int) := by omega
      go_wp2_with (first
        | (refine wpList_appBB rfl elemB wr _ (.tmp 24) (.tmp 25) rfl _ [0] rfl (OB.lit1 wr _ _ hby0.out) ((Ext.refl wr).alloc _) _ d rfl (HS.out.ext (hext.alloc _)) (by simp; omega) ?_; intro v5 w5 ho5 he5 hg5; rw [HPC.out] at ho5; obtain ⟨A5, c5, rfl⟩ := ho5.form; have HO5 := Lib.hid ho5; have HE5 := Lib.hid he5; clear ho5 he5 hg5)
        | (go_at_call 12; refine (rpput_z _ (n + k) _ (pieceL b k) _ rfl (by omega) HO5.out.rb (HPL.out k)).mono ?_; rintro e w6 ⟨v6, rfl, ho6, he6⟩; obtain ⟨A6, c6, rfl⟩ := ho6.form; have HO6 := Lib.hid ho6; have HE6 := Lib.hid he6; clear ho6 he6)
        | (refine wpList_app rfl elemS _ (.tmp 22) (.tmp 28) rfl w.heap.size _ rows.length vs rfl (ownsRow_ext hrl ((HE5.out.trans HE6.out).alloc _)) _ 1 [.slice A6 (pageP (n + k) (pieceL b k)).length c6] rfl (Rd.lit _ _ _ 1 rfl (by unfold maxLen; omega)) (by intro u hu; simp at hu; subst hu; rfl) (by rw [HRL.out]; omega) (by rw [HRL.out]; unfold maxLen; omega) (by have := hext.size; have := (HE5.out.trans HE6.out).size; simp; omega) ?_; intro v8 w8 ha; have HRO := Lib.hid (Rwo.push (HROW.out.ext (HE5.out.trans HE6.out)) (by omega) (RB.rd HO6.out.rb) (fun _ => away_new hrl HE5.out HO6.out.own) ha); have HEX := Lib.hid (ha.ext (hext.trans ((HE5.out.trans HE6.out).alloc _)) rfl (ownsRow_ext hrl ((HE5.out.trans HE6.out).alloc _))); clear ha))
      go_ret
      have hro := HRO.out
      rw [HRW.out, ← HTK.out k (by rw [hpl.out]; exact hk), HK1.out, HEND.out] at hro
      exact ⟨_, _, rfl, hro, HEX.out⟩

theorem pget_z (z : Int) (n : Nat) (v : Value) (l b : List UInt8) (w : World) (hz : z = n) (hh : Halves w) (hv : RB w v l) (hl : l.length ≤ 1000000) (hg : getL n l = (0, b)) :
    Calls Tryd.prog 10 #[v, .int .i64 z] w fun e w' => ∃ u, e = .returned (.tuple #[u, .int .i64 0]) ∧ OB 5 w.heap.size w' u b ∧ Ext w w' := by
  subst hz
  refine (pget_any n v l w hh hv hl).mono ?_
  rintro e w' ⟨u, he, hu, hx⟩
  rw [hg] at he hu
  exact ⟨u, he, hu, hx⟩
theorem take_go (b : List UInt8) (k : Nat) : b.take (42 * k) ++ (b.drop (42 * k)).take 42 = b.take (42 * (k + 1)) := by
  rw [show 42 * (k + 1) = 42 * k + 42 by omega, List.take_add]
theorem pieceL_full (b : List UInt8) {k : Nat} (h : 42 * (k + 1) < b.length) : pieceL b k = 1 :: (b.drop (42 * k)).take 42 ∧ ((b.drop (42 * k)).take 42).length + 1 = 43 := by
  simp only [pieceL, if_pos h, List.length_take, List.length_drop]
  exact ⟨trivial, by omega⟩
theorem pieceL_rest (b : List UInt8) {k : Nat} (h : ¬ 42 * (k + 1) < b.length) : pieceL b k = 0 :: (b.drop (42 * k)).take 42 := by
  simp only [pieceL, if_neg h]
theorem byte_0 : n8 0 = 0 := by unfold n8; rfl
theorem byte_1 : n8 1 = 1 := by unfold n8; rfl
/-- a page of a row is got -/
theorem pget_piece (z : Int) (n : Nat) (v : Value) (l : List UInt8) (f : UInt8) (t : List UInt8) (m : Nat) (x : Int) (w : World) (hz : z = n) (hh : Halves w) (hv : RB w v l) (hl : l.length ≤ 1000000) (hg : getL n l = (0, f :: t)) (hm : t.length + 1 = m) (hx : n8 f = x) :
    Calls Tryd.prog 10 #[v, .int .i64 z] w fun e w' => ∃ b c, e = .returned (.tuple #[.slice (some ⟨b, 0, none⟩) m c, .int .i64 0]) ∧ w'.cell? ⟨b, 0, none⟩ = some (.int .u8 x) ∧ w.heap.size ≤ b ∧
      m ≤ c ∧ RB w' (.slice (if c = 1 then some ⟨b, 0, none⟩ else some ⟨b, 1, none⟩) (m - 1) (c - 1)) t ∧ Ext w w' := by
  refine (pget_z z n v l (f :: t) w hz hh hv hl hg).mono ?_
  rintro e w' ⟨u, rfl, hu, he⟩
  obtain ⟨b, c, rfl, hb⟩ := hu.at0 (by simp)
  have hc := (hu.at_ (j := 0) (by simp)).1
  have h1 := hu.rb.nc.1
  have h2 := hu.rb.dropS (k := 1) (by simp)
  rw [show (f :: t).length = m from hm] at h1 h2 ⊢
  exact ⟨b, c, rfl, by rw [← hx]; exact hc, hb, h1, h2, he⟩
theorem kept_cell {w w' : World} {row : Option Nat} {b o : Nat} {u : Value} (hg : w.grownBy w' row) (hc : w.cell? ⟨b, o, none⟩ = some u) (hne : some b ≠ row) : w'.cell? ⟨b, o, none⟩ = some u :=
  (World.cell?_of_block (a := ⟨b, o, none⟩) (hg.block b (World.block_lt_of_cell? w ⟨b, o, none⟩ hc) hne)).trans hc

def UnrowPost (_n : Nat) (b : List UInt8) (w : World) (e : Ending) (w' : World) : Prop :=
  ∃ u, e = .returned (.tuple #[u, .int .i64 (pages b.length : Nat), .int .i64 0]) ∧ RB w' u b ∧ Ext w w'

set_option maxRecDepth 100000 in
set_option maxHeartbeats 2000000 in
theorem punrow_any (n : Nat) (v : Value) (b : List UInt8) (more : List (List UInt8)) (w : World) (hh : Halves w) (hv : RBB w v (rowL n b ++ more)) (h1 : 1 ≤ n) (h2 : n + pages b.length ≤ 4611686018427387904) (hb : b.length ≤ 65536) :
    Calls Tryd.prog 16 #[v, .int .i64 n] w (UnrowPost n b w) := by
  obtain ⟨A, c, rfl⟩ := hv.form
  have hp1 := pages_pos b.length
  have hp2 := pages_le b.length
  have hvl : ((rowL n b ++ more).length : Nat) = pages b.length + more.length := by rw [List.length_append, rowL_len]
  have hat : ∀ (w1 : World) (k : Nat), Ext w w1 → k < pages b.length → ∃ bb oo u, A = some ⟨bb, oo, none⟩ ∧ w1.cell? ⟨bb, oo + k, none⟩ = some u ∧ RB w1 u (pageP (n + k) (pieceL b k)) := by
    intro w1 k he hk
    have := (hv.ext he).at_ (k := k) (by rw [hvl]; omega)
    rw [List.getElem_append_left (by rw [rowL_len]; exact hk), rowL_at n b hk] at this
    exact this
  have hlen : (rowL n b ++ more).length ≤ 9223372036854775807 := by
    obtain ⟨vs, hr, _⟩ := hv
    have := hr.len_le
    rw [List.length_map] at this
    exact this
  have HAT := Lib.hid hat
  have HH := Lib.hid hh
  have HTG := Lib.hid (fun k => take_go b k)
  have HLAST := Lib.hid (fun k (h : k < pages b.length) => pages_last b h)
  have hp3 : pages b.length ≤ (rowL n b ++ more).length := by omega
  clear hat hh hv hvl
  generalize (rowL n b ++ more).length = q at *
  have HUP : Hid (∀ (u : Value) (w1 w2 : World) (k : Nat), pages b.length = k → RB w2 u b → Ext w1 w2 → UnrowPost n b w1 (.returned (.tuple #[u, .int .i64 (k : Nat), .int .i64 0])) w2) := Lib.hid (fun u w1 w2 k hk hu hx => by subst hk; exact ⟨u, rfl, hu, hx⟩)
  generalize pages b.length = p at *
  have hp4 : p ≤ 70000 := by omega
  clear hlen
  go_enter Tryd.func16, Tryd.ntmps16
  go_wp2
  go_loopw [7, 14] (fun y i wr => ∃ (k : Nat) (d : List UInt8), k < p ∧ i = .int .i64 k ∧ d = b.take (42 * k) ∧ OB 5 w.heap.size wr y d ∧ Ext w wr) (fun _ i _ => p - (intOf i).toNat)
  case atStart => exact ⟨0, [], by omega, rfl, rfl, OB.nilO _ _ _, Ext.refl _⟩
  case round =>
    obtain ⟨k, d, hk, rfl, hd, hown, hext⟩ := hrel
    obtain ⟨Ad, cd, rfl⟩ := hown.form
    have HO := Lib.hid hown
    have HD := Lib.hid hd
    have hdl : d.length ≤ 65536 := by rw [hd, List.length_take]; omega
    obtain ⟨bb, oo, u9, rfl, hc9, hu9⟩ := HAT.out wr k hext hk
    obtain ⟨A9, c9, rfl⟩ := hu9.form
    have HU9 := Lib.hid hu9
    have hmay : TagMay ((n + k : Nat) : Int) := ⟨by omega, by omega⟩
    have hnk : (n : Int) + (k : Int) = ((n + k : Nat) : Int) := by omega
    have HNK := Lib.hid hnk
    have hnk1 : (n : Int) + (k : Int) < 9223372036854775807 := by omega
    have hnk2 : 0 ≤ (n : Int) + (k : Int) := by omega
    have hkq : (k : Int) < (q : Int) := by omega
    have hplen := pageP_len (n + k) (pieceL_len b k)
    have HG := Lib.hid (getL_pageP hmay (pieceL_len b k))
    have HPLEN := Lib.hid hplen
    have HTG2 := Lib.hid (HTG.out k)
    rw [← HD.out] at HTG2
    have hk4 : (k : Int) < 70000 := by omega
    clear hown hd hu9 hmay hnk hplen
    generalize hd2 : b.take (42 * (k + 1)) = d2 at *
    have HD2 := Lib.hid hd2
    clear hd2
    by_cases hm : 42 * (k + 1) < b.length
    · obtain ⟨hpc, hl43⟩ := pieceL_full b hm
      have hk1 := (HLAST.out k hk).1 hm
      have HL43 := Lib.hid hl43
      rw [hpc] at HG hc9 HU9 HPLEN
      clear hm hpc hl43
      have ht42 : ((b.drop (42 * k)).take 42).length ≤ 42 := by have := HL43.out; omega
      have ht43 : Hid (((b.drop (42 * k)).take 42).length = 42) := Lib.hid (by have := HL43.out; omega)
      generalize (b.drop (42 * k)).take 42 = t at *
      generalize pageP (n + k) (1 :: t) = pg at *
      go_upto_region 8 with (go_at_call 10; refine (pget_piece _ (n + k) _ pg 1 t 43 1 _ HNK.out (HH.out.ext hext) HU9.out (by rw [HPLEN.out]; decide) HG.out HL43.out byte_1).mono ?_; rintro e w3 ⟨b3, c3, rfl, hc3, hb3, hm3, hr3, he3⟩; have HR3 := Lib.hid hr3; have HE3 := Lib.hid he3; clear hr3 he3)
      have hne1 : ¬ c3 = 1 := by omega
      have HR3 := Lib.hid (show RB w3 (.slice (some ⟨b3, 1, none⟩) 42 (c3 - 1)) t by have := HR3.out; rw [if_neg hne1] at this; exact this)
      have hc4 := Lib.hid (fun (w5 : World) (hg : w3.grownBy w5 (Value.slice Ad d.length cd).ownBlock) => kept_cell hg hc3 (fun e => by have := (HO.out.own.lt b3 e.symm).2; omega))
      go_wp2_with (refine wpList_appBB rfl elemB w _ (.tmp 52) (.tmp 54) rfl _ d rfl (HO.out.ext HE3.out) (hext.trans HE3.out) _ t rfl HR3.out (by omega) ?_; intro v5 w5 ho5 he5 hg5; rw [HTG2.out] at ho5; obtain ⟨A5, c5, rfl⟩ := ho5.form; have HO5 := Lib.hid ho5; have HE5 := Lib.hid he5; have hc5 := hc4.out w5 hg5; clear ho5 he5 hg5)
      refine ⟨⟨k + 1, d2, by omega, by go_num, HD2.out.symm, HO5.out, HE5.out⟩, by simp [intOf]; omega⟩
    · have hpc := pieceL_rest b hm
      have hk1 : Hid (p = k + 1) := Lib.hid (by have := HLAST.out k hk; omega)
      have hbe : Hid (d2 = b) := Lib.hid (by rw [← HD2.out]; exact List.take_of_length_le (by omega))
      have hpu := HUP.out
      have HPU := Lib.hid (fun u w2 hu hx => HUP.out u w w2 (k + 1) hk1.out hu hx)
      rw [hpc] at HG hc9 HU9 HPLEN
      clear hm hpc hpu
      have ht42 : ((b.drop (42 * k)).take 42).length ≤ 42 := by rw [List.length_take]; omega
      generalize (b.drop (42 * k)).take 42 = t at *
      generalize pageP (n + k) (0 :: t) = pg at *
      obtain ⟨m, hm⟩ : ∃ m, t.length + 1 = m := ⟨_, rfl⟩
      have HM := Lib.hid hm
      have hm1 : 1 ≤ m := by omega
      have hm2 : m ≤ 43 := by omega
      have hm3 : ((m : Int) == 0) = false := by simp; omega
      have hm4 : ¬ (m : Int) = 0 := by omega
      have ht1 : t.length ≤ 42 := ht42
      clear hm
      go_upto_region 8 with (go_at_call 10; refine (pget_piece _ (n + k) _ pg 0 t m 0 _ HNK.out (HH.out.ext hext) HU9.out (by rw [HPLEN.out]; decide) HG.out HM.out byte_0).mono ?_; rintro e w3 ⟨b3, c3, rfl, hc3, hb3, hm3, hr3, he3⟩; have HR3 := Lib.hid hr3; have HE3 := Lib.hid he3; clear hr3 he3)
      have hc4 := Lib.hid (fun (w5 : World) (hg : w3.grownBy w5 (Value.slice Ad d.length cd).ownBlock) => kept_cell hg hc3 (fun e => by have := (HO.out.own.lt b3 e.symm).2; omega))
      by_cases hc1 : c3 = 1
      · have HR3 := Lib.hid (show RB w3 (.slice (some ⟨b3, 0, none⟩) (m - 1) 0) t by have := HR3.out; rw [if_pos hc1, hc1] at this; exact this)
        subst hc1
        obtain rfl : m = 1 := by omega
        go_wp2_with (refine wpList_appBB rfl elemB w _ (.tmp 52) (.tmp 54) rfl _ d rfl (HO.out.ext HE3.out) (hext.trans HE3.out) _ t rfl HR3.out (by omega) ?_; intro v5 w5 ho5 he5 hg5; rw [HTG2.out] at ho5; obtain ⟨A5, c5, rfl⟩ := ho5.form; have HO5 := Lib.hid ho5; have HE5 := Lib.hid he5; have hc5 := hc4.out w5 hg5; clear ho5 he5 hg5)
        go_ret3
        exact HPU.out _ _ (by rw [← hbe.out]; exact HO5.out.rb) HE5.out
      · have HR3 := Lib.hid (show RB w3 (.slice (some ⟨b3, 1, none⟩) (m - 1) (c3 - 1)) t by have := HR3.out; rw [if_neg hc1] at this; exact this)
        go_wp2_with (refine wpList_appBB rfl elemB w _ (.tmp 52) (.tmp 54) rfl _ d rfl (HO.out.ext HE3.out) (hext.trans HE3.out) _ t rfl HR3.out (by omega) ?_; intro v5 w5 ho5 he5 hg5; rw [HTG2.out] at ho5; obtain ⟨A5, c5, rfl⟩ := ho5.form; have HO5 := Lib.hid ho5; have HE5 := Lib.hid he5; have hc5 := hc4.out w5 hg5; clear ho5 he5 hg5)
        go_ret3
        exact HPU.out _ _ (by rw [← hbe.out]; exact HO5.out.rb) HE5.out

/-- the law's own 'same' -/
theorem str_ne (a b : List UInt8) : ((⟨a.toArray⟩ : ByteArray) != ⟨b.toArray⟩) = !(a == b) := by rw [bne, str_eq]
set_option maxRecDepth 100000 in
set_option maxHeartbeats 400000 in
theorem same_any (v1 v2 : Value) (ls : List (List UInt8)) (w : World) (h1 : RBB w v1 ls) (h2 : RBB w v2 ls) (hl : ls.length ≤ 100000) :
    Calls Tryd.prog 14 #[v1, v2] w fun e w' => e = .returned (.bool true) ∧ Ext w w' := by
  obtain ⟨A1, k1, rfl⟩ := h1.form
  obtain ⟨A2, k2, rfl⟩ := h2.form
  have hne : ((ls.length : Int) != (ls.length : Int)) = false := by simp
  have H1 := Lib.hid h1
  have H2 := Lib.hid h2
  clear h1 h2
  go_enter Tryd.func14, Tryd.ntmps14
  go_wp2
  go_loopw [5] (fun i wr => ∃ k : Nat, k ≤ ls.length ∧ i = .int .i64 k ∧ Ext w wr) (fun i _ => ls.length - (intOf i).toNat)
  case atStart => exact ⟨0, Nat.zero_le _, rfl, Ext.refl _⟩
  case round =>
    obtain ⟨k, hk, rfl, hext⟩ := hrel
    by_cases hlt : k < ls.length
    · obtain ⟨b1, o1, u1, rfl, c0, hr1⟩ := (H1.out.ext hext).at_ hlt
      obtain ⟨b2, o2, u2, rfl, c1, hr2⟩ := (H2.out.ext hext).at_ hlt
      generalize ls[k] = l at *
      have HR1 := Lib.hid hr1
      have HR2 := Lib.hid hr2
      have hq : ((⟨l.toArray⟩ : ByteArray) != ⟨l.toArray⟩) = false := by rw [str_ne]; simp
      have hk9 : (k : Int) < (ls.length : Int) := by omega
      have hk8 : 0 ≤ (k : Int) := by omega
      clear hr1 hr2
      go_wp2
      refine wp_region_ext (by kernel_rfl) (by rfl) (by rfl) (by kernel_rfl) ?_
      repeat (first | ((first | (refine wpM_move00 Ext.refl rfl rfl rfl ?_) | (refine wpM_move01 Ext.refl rfl rfl rfl rfl ?_)); apply Exists.intro; refine ⟨?_, ?_⟩; · (go_simp; rfl)) | (first | (refine wpM_movek0 Ext.refl rfl rfl rfl ?_) | (refine wpM_movek1 Ext.refl rfl rfl rfl rfl ?_)) | ((first | (refine wpM_val0 Ext.refl rfl ?_) | (refine wpM_val1 Ext.refl rfl rfl ?_)); apply Exists.intro; refine ⟨?_, ?_⟩; · (intro a w' hR; intro h1; (first | (have e1 : _ = _ := h1) | skip); intro h2; (first | (have e2 : _ = _ := h2) | skip); go_simp; rfl)) | ((first | (refine wpM_val0 Ext.refl rfl ?_) | (refine wpM_val1 Ext.refl rfl rfl ?_)); apply Exists.intro; refine ⟨?_, ?_⟩; · (intro a w' hR; intro h1; (first | (have e1 : _ = _ := h1) | skip); go_simp; rfl)) | ((first | (refine wpM_val0 Ext.refl rfl ?_) | (refine wpM_val1 Ext.refl rfl rfl ?_)); apply Exists.intro; refine ⟨?_, ?_⟩; · (intro a w' hR; go_simp; rfl)) | ((first | (refine wpM_val0 Ext.refl rfl ?_) | (refine wpM_val1 Ext.refl rfl rfl ?_)); apply Exists.intro; refine ⟨?_, ?_⟩; · (intro a w' hR; intro h1; (first | (have e1 : _ = _ := h1) | skip); intro h2; (first | (have e2 : _ = _ := h2) | skip); intro h3; (first | (have e3 : _ = _ := h3) | skip); go_simp; rfl)) | (refine wpM_skip1 rfl ?_))
      (first | (refine wpM_val0 Ext.refl rfl ?_) | (refine wpM_val1 Ext.refl rfl rfl ?_)); apply Exists.intro; refine ⟨?_, ?_⟩
      · intro a w' hR h1
        have e1 : _ = _ := h1
        have hl0 := hR.cell c0
        have hl1 := hR.cell c1
        go_simp
        rfl
      (first | (refine wpM_val0 Ext.refl rfl ?_) | (refine wpM_val1 Ext.refl rfl rfl ?_)); apply Exists.intro; refine ⟨?_, ?_⟩
      · intro a w' hR h1
        have e1 : _ = _ := h1
        have hs := strB (HR1.out.ext hR)
        go_simp
        rfl
      repeat (first | ((first | (refine wpM_move00 Ext.refl rfl rfl rfl ?_) | (refine wpM_move01 Ext.refl rfl rfl rfl rfl ?_)); apply Exists.intro; refine ⟨?_, ?_⟩; · (go_simp; rfl)) | (first | (refine wpM_movek0 Ext.refl rfl rfl rfl ?_) | (refine wpM_movek1 Ext.refl rfl rfl rfl rfl ?_)) | ((first | (refine wpM_val0 Ext.refl rfl ?_) | (refine wpM_val1 Ext.refl rfl rfl ?_)); apply Exists.intro; refine ⟨?_, ?_⟩; · (intro a w' hR; intro h1; (first | (have e1 : _ = _ := h1) | skip); intro h2; (first | (have e2 : _ = _ := h2) | skip); go_simp; rfl)) | ((first | (refine wpM_val0 Ext.refl rfl ?_) | (refine wpM_val1 Ext.refl rfl rfl ?_)); apply Exists.intro; refine ⟨?_, ?_⟩; · (intro a w' hR; intro h1; (first | (have e1 : _ = _ := h1) | skip); go_simp; rfl)) | ((first | (refine wpM_val0 Ext.refl rfl ?_) | (refine wpM_val1 Ext.refl rfl rfl ?_)); apply Exists.intro; refine ⟨?_, ?_⟩; · (intro a w' hR; go_simp; rfl)) | ((first | (refine wpM_val0 Ext.refl rfl ?_) | (refine wpM_val1 Ext.refl rfl rfl ?_)); apply Exists.intro; refine ⟨?_, ?_⟩; · (intro a w' hR; intro h1; (first | (have e1 : _ = _ := h1) | skip); intro h2; (first | (have e2 : _ = _ := h2) | skip); intro h3; (first | (have e3 : _ = _ := h3) | skip); go_simp; rfl)) | (refine wpM_skip1 rfl ?_))
      (first | (refine wpM_val0 Ext.refl rfl ?_) | (refine wpM_val1 Ext.refl rfl rfl ?_)); apply Exists.intro; refine ⟨?_, ?_⟩
      · intro a w' hR h1
        have e1 : _ = _ := h1
        have hl0 := hR.cell c0
        have hl1 := hR.cell c1
        go_simp
        rfl
      (first | (refine wpM_val0 Ext.refl rfl ?_) | (refine wpM_val1 Ext.refl rfl rfl ?_)); apply Exists.intro; refine ⟨?_, ?_⟩
      · intro a w' hR h1
        have e1 : _ = _ := h1
        have hs := strB (HR2.out.ext hR)
        go_simp
        rfl
      repeat (first | ((first | (refine wpM_move00 Ext.refl rfl rfl rfl ?_) | (refine wpM_move01 Ext.refl rfl rfl rfl rfl ?_)); apply Exists.intro; refine ⟨?_, ?_⟩; · (go_simp; rfl)) | (first | (refine wpM_movek0 Ext.refl rfl rfl rfl ?_) | (refine wpM_movek1 Ext.refl rfl rfl rfl rfl ?_)) | ((first | (refine wpM_val0 Ext.refl rfl ?_) | (refine wpM_val1 Ext.refl rfl rfl ?_)); apply Exists.intro; refine ⟨?_, ?_⟩; · (intro a w' hR; intro h1; (first | (have e1 : _ = _ := h1) | skip); intro h2; (first | (have e2 : _ = _ := h2) | skip); go_simp; rfl)) | ((first | (refine wpM_val0 Ext.refl rfl ?_) | (refine wpM_val1 Ext.refl rfl rfl ?_)); apply Exists.intro; refine ⟨?_, ?_⟩; · (intro a w' hR; intro h1; (first | (have e1 : _ = _ := h1) | skip); go_simp; rfl)) | ((first | (refine wpM_val0 Ext.refl rfl ?_) | (refine wpM_val1 Ext.refl rfl rfl ?_)); apply Exists.intro; refine ⟨?_, ?_⟩; · (intro a w' hR; go_simp; rfl)) | ((first | (refine wpM_val0 Ext.refl rfl ?_) | (refine wpM_val1 Ext.refl rfl rfl ?_)); apply Exists.intro; refine ⟨?_, ?_⟩; · (intro a w' hR; intro h1; (first | (have e1 : _ = _ := h1) | skip); intro h2; (first | (have e2 : _ = _ := h2) | skip); intro h3; (first | (have e3 : _ = _ := h3) | skip); go_simp; rfl)) | (refine wpM_skip1 rfl ?_))
      refine wpM_done ?_
      intro w1 hx
      iterate 11 (rintro _ rfl)
      dsimp only [FinV]
      go_simp
      go_wp2
      go_roundw
      case rel => exact ⟨k + 1, by omega, by go_num, hext.trans hx⟩
      case measure => simp [intOf]; omega
    · obtain rfl : k = ls.length := by omega
      go_wp2
      go_ret
      exact ⟨rfl, hext⟩
end Go.Proofs.YtklnbmcfnnmliaaDoor
