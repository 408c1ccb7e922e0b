/-
  The walk of page.Row.
-/
import Derived.Test.YtklnbmcfnnmliaaDoorPage2
import Derived.Deep.DeepCutAuto
namespace Go.Proofs.YtklnbmcfnnmliaaDoor
open Go.RowKit Go.Ox
attribute [local irreducible] OB RB

theorem elemS : Elem Tryd.prog 33 22 (.slice none 0 0) 1 24 := Elem.mk' Tryd.underlying33 (by kernel_rfl) rfl (by omega)

/-- the pieces of bytes -/
def pcs (b : List UInt8) : List (List UInt8) := (List.range (pages b.length)).map fun k => (b.drop (42 * k)).take 42
theorem pcs_len (b : List UInt8) : (pcs b).length = pages b.length := by simp [pcs]
theorem pcs_at (b : List UInt8) {k : Nat} (h : k < (pcs b).length) : (pcs b)[k] = (b.drop (42 * k)).take 42 := by simp [pcs]
theorem piece_more (b : List UInt8) {k : Nat} (h : k < (pcs b).length) (h2 : k + 1 < (pcs b).length) : [[1], (pcs b)[k]].flatten = pieceL b k := by
  rw [pcs_len] at h h2
  rw [pcs_at, pieceL, if_pos ((pages_last b h).2 h2)]; simp
theorem piece_last (b : List UInt8) {k : Nat} (h : k < (pcs b).length) (h2 : ¬ k + 1 < (pcs b).length) : [[0], (pcs b)[k]].flatten = pieceL b k := by
  rw [pcs_len] at h h2
  rw [pcs_at, pieceL, if_neg (fun h3 => h2 ((pages_last b h).1 h3))]; simp
theorem rowL_take (n : Nat) (b : List UInt8) {k : Nat} (h : k < (pcs b).length) : ((rowL n b).take (k + 1)).map byteRow = ((rowL n b).take k).map byteRow ++ [((pageP (n + k) (pieceL b k)).length, (pageP (n + k) (pieceL b k)).map byteV)] := by
  rw [pcs_len] at h
  rw [List.take_succ_eq_append_getElem (by rw [rowL_len]; exact h), rowL_at n b h, List.map_append]
  rfl
/-- a piece, as it lies -/
theorem chunkV_rb {w : World} {b o c : Nat} {l : List UInt8} (h : RB w (.slice (some ⟨b, o, none⟩) l.length c) l) {k : Nat} (_hk : 42 * k < l.length) : RB w (chunkV b o l.length k) ((l.drop (42 * k)).take 42) := by
  have h1 := RB.rd h
  obtain ⟨A, c', he, hr⟩ := h1
  injection he with e1 e2 e3
  subst e1 e3
  have hq : ((l.drop (42 * k)).take 42).length = chunkQ l.length k := by rw [List.length_take, List.length_drop]; rfl
  unfold RB
  refine ⟨_, _, by rw [hq]; rfl, by simp, by rw [hq]; exact Nat.le_refl _, by unfold chunkQ maxLen; have : Nat.min 42 (l.length - 42 * k) ≤ 42 := Nat.min_le_left _ _; omega, (fun h => by cases h), fun ad ha j u hu => ?_⟩
  injection ha with ha; subst ha
  refine ⟨rfl, ?_⟩
  have hj : (l.map byteV)[42 * k + j]? = some u := by
    rw [List.getElem?_map] at hu ⊢
    rw [List.getElem?_take] at hu
    split at hu
    · rw [List.getElem?_drop] at hu; exact hu
    · simp at hu
  have := hr.get hj
  simpa [Nat.add_assoc] using this
theorem collected {w : World} {b o c base : Nat} {v : Value} {l : List UInt8} (h : RB w (.slice (some ⟨b, o, none⟩) l.length c) l) (h0 : 0 < l.length) (ho : w.ownsRow base 22 1 v (chunksN l.length) ((List.range (chunksN l.length)).map (chunkV b o l.length))) : RBB w v (pcs l) := by
  have hn : chunksN l.length = pages l.length := by unfold chunksN pages; rw [if_neg (by omega)]
  have hl : ((pcs l).map byteRow).length = pages l.length := by rw [List.length_map, pcs_len]
  refine ⟨_, by rw [hl, ← hn]; exact Rd.of_own ho, fun k hk => ?_⟩
  rw [hl] at hk
  refine ⟨chunkV b o l.length k, by simp [hn, hk], ?_⟩
  rw [List.getElem_map, pcs_at]
  exact RB.rd (chunkV_rb h (by unfold pages at hk; rw [if_neg (by omega)] at hk; omega))
theorem pcs_nil {b : List UInt8} (h : b.length = 0) : pcs b = [[]] := by
  have := List.eq_nil_of_length_eq_zero h
  subst this; rfl
theorem one_nil (w : World) : RBB (w.alloc (.cells #[.slice none 0 0] 22)) (.slice (some ⟨w.heap.size, 0, none⟩) 1 1) [[]] :=
  ⟨[.slice none 0 0], Rd.lit w #[.slice none 0 0] _ 1 rfl (by unfold maxLen; omega), fun k hk => by
    match k, hk with
    | 0, _ => exact ⟨.slice none 0 0, rfl, Rd.nil _ _⟩⟩

theorem pages_int (k : Nat) : ((pages k : Nat) : Int) = if (k : Int) = 0 then 1 else ((k : Int) + 41) / 42 := by
  unfold pages
  by_cases h : k = 0
  · subst h; rfl
  · rw [if_neg h, if_neg (by omega)]; omega
theorem pages_max {k : Nat} (h : ((k : Int) + 41) / 42 ≤ 1) : Value.int .i64 1 = .int .i64 (pages k : Nat) := by
  congr 1
  rw [pages_int]
  split <;> omega
theorem pages_max2 {k : Nat} (h : 1 < ((k : Int) + 41) / 42) : Value.int .i64 (((k : Int) + 41) / 42) = .int .i64 (pages k : Nat) := by
  congr 1
  rw [pages_int, if_neg (by omega)]

theorem box_1 (w : World) (x y : Value) (T T' : TypeId) : ((w.alloc (.cells #[x] T)).alloc (.cells #[y] T')).cell? ⟨w.heap.size, 0, none⟩ = some x :=
  ((Ext.refl _).alloc _).cell ((Blk.new w T #[x]).cell 0)
theorem box_2 (w : World) (x y : Value) (T T' : TypeId) : ((w.alloc (.cells #[x] T)).alloc (.cells #[y] T')).cell? ⟨w.heap.size + 1, 0, none⟩ = some y := by
  have := (Blk.new (w.alloc (.cells #[x] T)) T' #[y]).cell 0
  rw [World.size_alloc] at this
  exact this
theorem pput_z (z : Int) (n : Nat) (v : Value) (b : List UInt8) (w : World) (hz : z = n) (hh : Halves w) (h : TagMay n) (hv : RB w v b) (hb : b.length ≤ 43) :
    Calls Tryd.prog 8 #[.int .i64 z, v] w fun e w' => ∃ u, e = .returned (.tuple #[u, .int .i64 0]) ∧ OB 5 w.heap.size w' u (pageP n b) ∧ Ext w w' := by
  subst hz; exact pput_any n v b w hh h hv hb
theorem rpput_z (z : Int) (n : Nat) (v : Value) (b : List UInt8) (w : World) (hz : z = n) (hn : n ≤ 4611686018427387903) (hv : RB w v b) (hb : b.length ≤ 43) :
    Calls Tryd.prog 12 #[.int .i64 z, v] w fun e w' => ∃ u, e = .returned u ∧ OB 5 w.heap.size w' u (pageP n b) ∧ Ext w w' := by
  subst hz; exact rpput_any n v b w hn hv hb
theorem away_new {w w5 w6 : World} {T E s n' base : Nat} {out u : Value} {m n : Nat} {vs xs : List Value} (ho : w.ownsRow base T n' out m vs) (he : Ext w w5) (hu : w6.ownsRow w5.heap.size E s u n xs) : Away u out.ownBlock :=
  away_own hu fun k hk h => by
    have h1 := (hu.lt k hk).1
    have h2 := (ho.lt k h).2
    have h3 := he.size
    omega
theorem RBs.lit2n {w : World} {v1 v2 : Value} {l1 l2 : List UInt8} (E : Nat) (n : Nat) (hn : n = w.heap.size) (h1 : RB w v1 l1) (h2 : RB w v2 l2) : RBs (w.alloc (.cells #[v1, v2] E)) (.slice (some ⟨n, 0, none⟩) 2 2) [l1, l2] := by
  subst hn; exact RBs.lit2 E h1 h2
theorem pages_le (k : Nat) : pages k ≤ k + 1 := by unfold pages; split <;> omega

set_option maxRecDepth 100000 in
set_option maxHeartbeats 400000 in
theorem prow_arg (n : Int) (v : Value) (A : Option Addr) (k c : Nat) (w : World) (hv : v = .slice A k c) (h : ¬ TagMay n ∨ 4611686018427387903 - (pages k : Int) + 1 < n) (hk : k ≤ 1000000000000000000) :
    Calls Tryd.prog 13 #[.int .i64 n, v] w fun e w' => e = .returned (.tuple #[.slice none 0 0, .int .i64 1]) ∧ w = w' := by
  subst hv
  have hq : (((k : Int) + 42 - 1) / 42) = (((k : Int) + 41) / 42) := by omega
  have hp := pages_le k
  have HY := Lib.hid (fun w h => pmay_yes n w h)
  have HN := Lib.hid (fun w h => pmay_no n w h)
  have H := Lib.hid h
  clear h
  go_enter Tryd.func13, Tryd.ntmps13
  go_upto_region 1 with fail
  go_cut [6] (fun s6 wx => s6 = .int .i64 (pages k : Nat) ∧ w = wx)
  case first =>
    go_wp2
    all_goals go_meet
    all_goals first | exact ⟨pages_max2 (by first | assumption | omega), rfl⟩ | exact ⟨pages_max (by first | assumption | omega), rfl⟩
  case rest =>
    obtain ⟨rfl, rfl⟩ := hcut
    generalize pages k = p at *
    clear hq
    by_cases hm : TagMay n
    · have h2 : 4611686018427387903 - (p : Int) + 1 < n := by rcases H.out with h | h; exact absurd hm h; exact h
      have HM := Lib.hid hm
      clear hm
      go_wp2_with (go_at_call 17; refine (HY.out _ HM.out).mono ?_; rintro e w' ⟨rfl, rfl⟩)
      go_ret2
      exact ⟨rfl, rfl⟩
    · have HM := Lib.hid hm
      clear hm
      go_wp2_with (go_at_call 17; refine (HN.out _ HM.out).mono ?_; rintro e w' ⟨rfl, rfl⟩)
      go_ret2
      exact ⟨rfl, rfl⟩

set_option maxRecDepth 100000 in
set_option maxHeartbeats 400000 in
theorem prow_long (n : Int) (v : Value) (A : Option Addr) (k c : Nat) (w : World) (hv : v = .slice A k c) (h : TagMay n) (h2 : n ≤ 4611686018427387903 - (pages k : Int) + 1) (hk : k ≤ 1000000000000000000) (hk2 : 65536 < k) :
    Calls Tryd.prog 13 #[.int .i64 n, v] w fun e w' => e = .returned (.tuple #[.slice none 0 0, .int .i64 3]) ∧ w = w' := by
  subst hv
  have hq : (((k : Int) + 42 - 1) / 42) = (((k : Int) + 41) / 42) := by omega
  have hp := pages_le k
  have HY := Lib.hid (pmay_yes n w h)
  have HK := Lib.hid hk2
  clear h
  go_enter Tryd.func13, Tryd.ntmps13
  go_upto_region 1 with fail
  go_cut [6] (fun s6 wx => s6 = .int .i64 (pages k : Nat) ∧ w = wx)
  case first =>
    go_wp2
    all_goals go_meet
    all_goals first | exact ⟨pages_max2 (by first | assumption | omega), rfl⟩ | exact ⟨pages_max (by first | assumption | omega), rfl⟩
  case rest =>
    obtain ⟨rfl, rfl⟩ := hcut
    generalize pages k = p at *
    clear hq
    have hk3 : (65536 : Int) < (k : Int) := by have := HK.out; omega
    have h3 : ¬ 4611686018427387903 - (p : Int) + 1 < n := by omega
    go_wp2_with (go_at_call 17; refine HY.out.mono ?_; rintro e w' ⟨rfl, rfl⟩)
    go_ret2
    exact ⟨rfl, rfl⟩

def RowPost (n : Nat) (b : List UInt8) (w : World) (e : Ending) (w' : World) : Prop :=
  ∃ u vs, e = .returned (.tuple #[u, .int .i64 0]) ∧ Rwo 22 w.heap.size 1 w' u ((rowL n b).map byteRow) vs ∧ Ext w w'

set_option maxRecDepth 100000 in
set_option maxHeartbeats 2000000 in
theorem prow_any (n : Nat) (v : Value) (b : List UInt8) (w : World) (hh : Halves w) (hv : RB w v b) (h1 : 1 ≤ n) (h2 : n + pages b.length ≤ 4611686018427387904) (hb : b.length ≤ 65536) :
    Calls Tryd.prog 13 #[.int .i64 n, v] w (RowPost n b w) := by
  obtain ⟨A, c, rfl⟩ := hv.form
  have hq : (((b.length : Int) + 42 - 1) / 42) = (((b.length : Int) + 41) / 42) := by omega
  have hp := pages_le b.length
  have hp1 := pages_pos b.length
  have hmay : TagMay n := ⟨by omega, by omega⟩
  have HY := Lib.hid (pmay_yes n w hmay)
  have hpl := Lib.hid (pcs_len b)
  have HH := Lib.hid hh
  have hnc := hv.nc.1
  have HV := Lib.hid hv
  clear hmay hh hv
  go_enter Tryd.func13, Tryd.ntmps13
  go_upto_region 1 with fail
  go_cut [6] (fun s6 wx => s6 = .int .i64 (pages b.length : Nat) ∧ w = wx)
  case first =>
    go_wp2
    all_goals go_meet
    all_goals first | exact ⟨pages_max2 (by first | assumption | omega), rfl⟩ | exact ⟨pages_max (by first | assumption | omega), rfl⟩
  case rest =>
    obtain ⟨rfl, rfl⟩ := hcut
    clear hq
    generalize hpp : pages b.length = p at *
    have HPP := Lib.hid hpp
    clear hpp
    have hk3 : ¬ (65536 : Int) < (b.length : Int) := by omega
    have h3 : ¬ 4611686018427387903 - (p : Int) + 1 < (n : Int) := by omega
    go_upto_region 6 with (go_at_call 17; refine HY.out.mono ?_; rintro e w' ⟨rfl, rfl⟩)
    go_cut [7] (fun s7 wx => ∃ A' c', s7 = .slice A' (if b.length = 0 then 0 else p) c' ∧ (b.length ≠ 0 → RBB wx s7 (pcs b)) ∧ Ext w wx)
    case first =>
      by_cases h0 : b.length = 0
      · have H0 := Lib.hid h0
        have hcol := fun (Bs Bn : Nat) (w1 : World) (h : w1.cell? ⟨Bs, 0, none⟩ = some (.slice A b.length c)) => collect_nil Bs Bn c A w1 (by rw [h, h0])
        have HC := Lib.hid hcol
        clear hcol h0
        go_wp2_with (first
          | (go_at_call 28; refine (chunk_any _ _ _ _).mono ?_; rintro e w' ⟨rfl, rfl⟩)
          | (go_at_call 27; refine (HC.out _ _ _ (box_1 _ _ _ _ _)).mono ?_; rintro e w2 ⟨v2, rfl, ho2, he2⟩; obtain ⟨A2, c2, rfl⟩ := (Rd.of_own ho2).form))
        go_meet
        refine ⟨A2, c2, by rw [H0.out]; rfl, fun h => absurd H0.out h, (((Ext.refl w).alloc _).alloc _).trans he2⟩
      · have h0' : 0 < b.length := by omega
        obtain ⟨bb, oo, rfl, hc0⟩ := (HV.out).byteS (k := 0) h0'
        clear hc0
        have hcol := fun (Bs Bn : Nat) (w1 : World) (h : w1.cell? ⟨Bs, 0, none⟩ = some (.slice (some ⟨bb, oo, none⟩) b.length c)) (h2 : w1.cell? ⟨Bn, 0, none⟩ = some (.int .i64 42)) => collect_any Bs Bn bb oo b.length c (by omega) h0' hnc w1 h h2
        have HC := Lib.hid hcol
        have H0 := Lib.hid h0
        clear hcol h0 h0'
        go_wp2_with (first
          | (go_at_call 28; refine (chunk_any _ _ _ _).mono ?_; rintro e w' ⟨rfl, rfl⟩)
          | (go_at_call 27; refine (HC.out _ _ _ (box_1 _ _ _ _ _) (box_2 _ _ _ _ _)).mono ?_; rintro e w2 ⟨v2, rfl, ho2, he2⟩; have HO2 := Lib.hid ho2; obtain ⟨A2, c2, rfl⟩ := (Rd.of_own ho2).form; clear ho2))
        go_meet
        have hx := (((Ext.refl w).alloc (.cells #[.slice (some ⟨bb, oo, none⟩) b.length c] 22)).alloc (.cells #[.int .i64 42] 3)).trans he2
        have hcn : chunksN b.length = p := by rw [← HPP.out]; unfold chunksN pages; rw [if_neg H0.out]
        refine ⟨A2, c2, by rw [if_neg H0.out, hcn], fun _ => ?_, hx⟩
        exact collected (HV.out.ext hx) (by have := H0.out; omega) HO2.out
    case rest =>
      obtain ⟨A7, c7, rfl, hr7, hx7⟩ := hcut
      generalize hq7 : (if b.length = 0 then 0 else p) = q7 at *
      have HQ := Lib.hid hq7
      have HR7 := Lib.hid hr7
      have HX7 := Lib.hid hx7
      clear hq7 hr7 hx7
      go_upto_if 40 with fail
      go_cut [7] (fun s7 wx => RBB wx s7 (pcs b) ∧ Ext w wx)
      case first =>
        by_cases h7 : q7 = 0
        · subst h7
          have h0 : Hid (b.length = 0) := Lib.hid (by have h7 := HQ.out; by_cases h : b.length = 0; exact h; rw [if_neg h] at h7; omega)
          go_wp2
          go_meet
          refine ⟨?_, HX7.out.alloc _⟩
          rw [pcs_nil h0.out]
          exact one_nil _
        · have h8 : ((q7 : Int) == 0) = false := by simp; omega
          have h9 : ¬ (q7 : Int) = 0 := by omega
          go_wp2
          go_meet
          refine ⟨HR7.out (fun h => h7 ?_), HX7.out⟩
          have := HQ.out
          rw [if_pos h] at this
          exact this.symm
      case rest =>
        obtain ⟨hR, hX⟩ := hcut
        obtain ⟨A8, c8, rfl⟩ := hR.form
        have HR := Lib.hid hR
        have HX := Lib.hid hX
        have HPM := Lib.hid (fun k h h2 => @piece_more b k h h2)
        have HPLA := Lib.hid (fun k h h2 => @piece_last b k h h2)
        have HTK := Lib.hid (fun k h => @rowL_take n b k h)
        have HPL := Lib.hid (fun k => pieceL_len b k)
        have HEND : Hid ((rowL n b).take (pcs b).length = rowL n b) := Lib.hid (by rw [pcs_len]; exact List.take_of_length_le (by rw [rowL_len]; exact Nat.le_refl _))
        have hnp : n + (pcs b).length ≤ 4611686018427387904 := by rw [hpl.out]; exact h2
        have hp2 : (pcs b).length ≤ 100000 := by rw [hpl.out]; omega
        have hp3 : 1 ≤ (pcs b).length := by rw [hpl.out]; exact hp1
        clear hR hX HV HR7
        generalize pcs b = ps at *
        go_wp2
        go_loopw [8, 44] (fun y i wr => ∃ (k : Nat) (rows : List (Nat × List Value)) (vs : List Value), k ≤ ps.length ∧ i = .int .i64 k ∧ rows = ((rowL n b).take k).map byteRow ∧ Rwo 22 wc.heap.size 1 wr y rows vs ∧ Ext wc wr) (fun _ i _ => ps.length - (intOf i).toNat)
        case atStart => exact ⟨0, [], [], Nat.zero_le _, rfl, rfl, Rwo.nil _ _ _ _, Ext.refl _⟩
        case round =>
          obtain ⟨k, rows, vs, hk, rfl, hrows, hrow, hext⟩ := hrel
          have hrl := hrow.own
          have HRW := Lib.hid hrows
          have HRL : Hid (rows.length = k) := Lib.hid (by rw [hrows, List.length_map, List.length_take, rowL_len, HPP.out, ← hpl.out]; omega)
          obtain ⟨Ay, cy, rfl⟩ := (Rd.of_own hrl).form
          have HROW := Lib.hid hrow
          clear hrows hrow
          by_cases hlt : k < ps.length
          · obtain ⟨b9, o9, u9, rfl, hc9, hu9⟩ := (HR.out.ext hext).at_ hlt
            obtain ⟨A10, c10, rfl⟩ := hu9.form
            have hmay : TagMay ((n + k : Nat) : Int) := ⟨by omega, by omega⟩
            have hnk : ((n + k : Nat) : Int) = (n : Int) + (k : Int) := by omega
            have HMAY := Lib.hid hmay
            have HNK := Lib.hid hnk
            have hnk1 : (n : Int) + (k : Int) < 9223372036854775807 := by omega
            have hnk2 : 0 ≤ (n : Int) + (k : Int) := by omega
            have hk9 : (k : Int) < (ps.length : Int) := by omega
            have HU := Lib.hid hu9
            have hby0 : Hid (byteV 0 = .int .u8 0) := Lib.hid (by unfold byteV n8; rfl)
            have hby1 : Hid (byteV 1 = .int .u8 1) := Lib.hid (by unfold byteV n8; rfl)
            clear hmay hnk hu9
            by_cases hm : k + 1 < ps.length
            · have hmore : ((k : Int) == (ps.length : Int) - 1) = false := by simp; omega
              have HPC := Lib.hid (HPM.out k hlt hm)
              clear hm
              generalize ps[k] = pc at *
              go_wp2_with (first
                | (go_at_call 19; refine (concat_any _ [[1], pc] _ (RBs.lit2n _ (wr.heap.size + 1) (by simp) (RB.lit1 _ _ _ 1 hby1.out) (HU.out.ext ((Ext.refl _).alloc _))) (by rw [HPC.out]; have := HPL.out k; omega)).mono ?_; rintro e w5 ⟨v5, rfl, ho5, he5⟩; rw [HPC.out] at ho5; obtain ⟨A5, c5, rfl⟩ := ho5.form; have HO5 := Lib.hid ho5; have HE5 := Lib.hid ((((Ext.refl wr).alloc _).alloc _).trans he5); clear ho5 he5)
                | (go_at_call 8; refine (pput_z _ (n + k) _ (pieceL b k) _ HNK.out.symm (HH.out.ext (HX.out.trans (hext.trans HE5.out))) HMAY.out HO5.out.rb (HPL.out k)).mono ?_; rintro e w6 ⟨v6, rfl, ho6, he6⟩; obtain ⟨A6, c6, rfl⟩ := ho6.form; have HO6 := Lib.hid ho6; have HE6 := Lib.hid he6; clear ho6 he6)
                | (refine wpList_app rfl elemS _ (.tmp 66) (.tmp 68) rfl wc.heap.size _ rows.length vs rfl (ownsRow_ext hrl ((HE5.out.trans HE6.out).alloc _)) _ 1 [.slice A6 (pageP (n + k) (pieceL b k)).length c6] rfl (Rd.lit _ _ _ 1 rfl (by unfold maxLen; omega)) (by intro u hu; simp at hu; subst hu; rfl) (by rw [HRL.out]; omega) (by rw [HRL.out]; unfold maxLen; omega) (by have := hext.size; have := (HE5.out.trans HE6.out).size; simp; omega) ?_; intro v8 w8 ha; have HRO := Lib.hid (Rwo.push (HROW.out.ext (HE5.out.trans HE6.out)) (by omega) (RB.rd HO6.out.rb) (fun _ => away_new hrl HE5.out HO6.out.own) ha); have HEX := Lib.hid (ha.ext (hext.trans ((HE5.out.trans HE6.out).alloc _)) rfl (ownsRow_ext hrl ((HE5.out.trans HE6.out).alloc _))); clear ha))
              go_roundw
              case rel => exact ⟨k + 1, _, _, by omega, by go_num, by rw [HTK.out k hlt, ← HRW.out], HRO.out, HEX.out⟩
              case measure => simp [intOf]; omega
            · have hmore : ((k : Int) == (ps.length : Int) - 1) = true := by simp; omega
              have HPC := Lib.hid (HPLA.out k hlt hm)
              clear hm
              generalize ps[k] = pc at *
              go_wp2_with (first
                | (go_at_call 19; refine (concat_any _ [[0], pc] _ (RBs.lit2n _ (wr.heap.size + 1) (by simp) (RB.lit1 _ _ _ 0 hby0.out) (HU.out.ext ((Ext.refl _).alloc _))) (by rw [HPC.out]; have := HPL.out k; omega)).mono ?_; rintro e w5 ⟨v5, rfl, ho5, he5⟩; rw [HPC.out] at ho5; obtain ⟨A5, c5, rfl⟩ := ho5.form; have HO5 := Lib.hid ho5; have HE5 := Lib.hid ((((Ext.refl wr).alloc _).alloc _).trans he5); clear ho5 he5)
                | (go_at_call 8; refine (pput_z _ (n + k) _ (pieceL b k) _ HNK.out.symm (HH.out.ext (HX.out.trans (hext.trans HE5.out))) HMAY.out HO5.out.rb (HPL.out k)).mono ?_; rintro e w6 ⟨v6, rfl, ho6, he6⟩; obtain ⟨A6, c6, rfl⟩ := ho6.form; have HO6 := Lib.hid ho6; have HE6 := Lib.hid he6; clear ho6 he6)
                | (refine wpList_app rfl elemS _ (.tmp 66) (.tmp 68) rfl wc.heap.size _ rows.length vs rfl (ownsRow_ext hrl ((HE5.out.trans HE6.out).alloc _)) _ 1 [.slice A6 (pageP (n + k) (pieceL b k)).length c6] rfl (Rd.lit _ _ _ 1 rfl (by unfold maxLen; omega)) (by intro u hu; simp at hu; subst hu; rfl) (by rw [HRL.out]; omega) (by rw [HRL.out]; unfold maxLen; omega) (by have := hext.size; have := (HE5.out.trans HE6.out).size; simp; omega) ?_; intro v8 w8 ha; have HRO := Lib.hid (Rwo.push (HROW.out.ext (HE5.out.trans HE6.out)) (by omega) (RB.rd HO6.out.rb) (fun _ => away_new hrl HE5.out HO6.out.own) ha); have HEX := Lib.hid (ha.ext (hext.trans ((HE5.out.trans HE6.out).alloc _)) rfl (ownsRow_ext hrl ((HE5.out.trans HE6.out).alloc _))); clear ha))
              go_roundw
              case rel => exact ⟨k + 1, _, _, by omega, by go_num, by rw [HTK.out k hlt, ← HRW.out], HRO.out, HEX.out⟩
              case measure => simp [intOf]; omega
          · obtain rfl : k = ps.length := by omega
            have hg : ¬ ((ps.length : Int) < (ps.length : Int)) := by omega
            have HROW2 := Lib.hid (HRW.out ▸ HROW.out)
            go_wp2
            go_ret2
            exact ⟨_, vs, rfl, by have := HROW.out; rw [HRW.out, HEND.out] at this; rw [HRW.out, HEND.out]; exact this.low HX.out.size, HX.out.trans hext⟩
end Go.Proofs.YtklnbmcfnnmliaaDoor
