/-
  The walks of package crc and of its reference.
-/
import Derived.Test.YtklnbmcfnnmliaaDoorChecked
import Derived.Test.YtklnbmcfnnmliaaDoorMem
import Derived.Test.YtklnbmcfnnmliaaDoorCrcMath
import Derived.Test.YtklnbmcfnnmliaaDoorSlc
import Derived.WalkKit
import Derived.WalkSpells
import Derived.WalkLawsBesides
namespace Go.Proofs.YtklnbmcfnnmliaaDoor
open Go.RowKit Go.Ox

/-- a register's number; shut to simp -/
@[irreducible] def n32 (c : Crc.W32) : Int := (c.toNat : Int)
theorem n32_lo (c : Crc.W32) : 0 ≤ n32 c := by unfold n32; omega
theorem n32_hi (c : Crc.W32) : n32 c < 4294967296 := by unfold n32; have := c.isLt; omega
theorem n32_inj {a b : Crc.W32} (h : n32 a = n32 b) : a = b := BitVec.eq_of_toNat_eq (by unfold n32 at h; omega)

/-- the table of halves lies where it is laid -/
def Halves (w : World) : Prop := ∀ c : Crc.W32, w.cell? ⟨0, (n32 (c &&& 15#32)).toNat, none⟩ = some (.int .u32 (n32 (Crc.Tn 4 (c &&& 15#32))))
theorem Halves.ext {w w' : World} (h : Halves w) (he : Ext w w') : Halves w' := fun c => he.cell (h c)

theorem xor_bv (a b : Crc.W32) : bits .xor .u32 (n32 a) (n32 b) = n32 (a ^^^ b) := by
  unfold n32; rw [u32_xor_nat _ _ a.isLt b.isLt, BitVec.toNat_xor]
theorem xor_byte (a : Crc.W32) (x : UInt8) : bits .xor .u32 (n32 a) (n8 x) = n32 (a ^^^ x.toBitVec.setWidth 32) := by
  have h0 : x.toNat < 4294967296 := by have := x.toNat_lt; omega
  unfold n32 n8
  rw [u32_xor_nat _ _ a.isLt h0, BitVec.toNat_xor]
  have h : (x.toBitVec.setWidth 32).toNat = x.toNat := by
    rw [BitVec.toNat_setWidth]; exact Nat.mod_eq_of_lt h0
  rw [h]
theorem and15_bv (a : Crc.W32) : bits .and .u32 (n32 a) 15 = n32 (a &&& 15#32) := by
  unfold n32
  rw [show (15 : Int) = ((15#32 : Crc.W32).toNat : Int) from rfl, u32_and_nat _ _ a.isLt (15#32 : Crc.W32).isLt, BitVec.toNat_and]
theorem shr4_bv (a : Crc.W32) : n32 a / 16 = n32 (a >>> 4) := by
  unfold n32
  rw [BitVec.toNat_ushiftRight, Nat.shiftRight_eq_div_pow]; rfl
theorem not_bv (a : Crc.W32) : bits .xor .u32 IntKind.u32.max (n32 a) = n32 (~~~a) := by
  rw [show IntKind.u32.max = n32 4294967295#32 by unfold n32; rfl, xor_bv]
  rw [show (4294967295#32 : Crc.W32) = BitVec.allOnes 32 from rfl, BitVec.allOnes_xor]
theorem and1_bv (a : Crc.W32) : bits .and .u32 (n32 a) 1 = if a.getLsbD 0 = true then 1 else 0 := by
  unfold n32
  rw [show (1 : Int) = ((1#32 : Crc.W32).toNat : Int) from rfl, u32_and_nat _ _ a.isLt (1#32 : Crc.W32).isLt]
  have : a.toNat &&& (1#32 : Crc.W32).toNat = a.toNat % 2 := Nat.and_one_is_mod _
  rw [this]
  have h : a.getLsbD 0 = a.toNat.testBit 0 := rfl
  rw [h, Nat.testBit_zero]
  rcases Nat.mod_two_eq_zero_or_one a.toNat with h | h <;> rw [h] <;> decide
theorem shr1_bv (a : Crc.W32) : n32 a / 2 = n32 (a >>> 1) := by
  unfold n32
  rw [BitVec.toNat_ushiftRight, Nat.shiftRight_eq_div_pow]; rfl
theorem poly_bv (a : Crc.W32) : bits .xor .u32 (n32 a) 3988292384 = n32 (a ^^^ Crc.poly) := by
  rw [show (3988292384 : Int) = n32 Crc.poly by unfold n32; rfl, xor_bv]
theorem T_one {c : Crc.W32} (h : c.getLsbD 0 = true) : (c >>> 1) ^^^ Crc.poly = Crc.T c := by unfold Crc.T; rw [if_pos h]
theorem T_nil {c : Crc.W32} (h : c.getLsbD 0 = false) : c >>> 1 = Crc.T c := by unfold Crc.T; rw [h]; simp
theorem and15_lt (a : Crc.W32) : n32 (a &&& 15#32) < 16 := by
  unfold n32
  rw [BitVec.toNat_and]; have : a.toNat &&& (15#32).toNat ≤ 15 := Nat.and_le_right
  omega

set_option maxRecDepth 100000 in
set_option maxHeartbeats 400000 in
theorem more_any (s : Crc.W32) (v : Value) (l : List UInt8) (w : World) (hh : Halves w) (hb : RB w v l) :
    Calls Tryd.prog 40 #[.int .u32 (n32 s), v] w fun e w' => e = .returned (.int .u32 (n32 (Crc.more s l))) ∧ w = w' := by
  obtain ⟨A, c, rfl, hrd⟩ := hb
  have hn := hrd.nc
  have hs0 := n32_lo s
  have hs1 := n32_hi s
  have hm := hrd.cm
  unfold maxLen at hm
  have e5 := not_bv
  have HH := Lib.hid hh
  clear hh
  go_enter Tryd.func40, Tryd.ntmps40
  go_wp2
  go_loop [5, 7, 12] (fun c x i => ∃ k : Nat, k ≤ l.length ∧ i = .int .i64 k ∧ c = .int .u32 (n32 (Crc.reg (~~~s) (l.take k)))) (fun _ _ i => l.length - (intOf i).toNat)
  case atStart => exact ⟨0, Nat.zero_le _, rfl, rfl⟩
  case round =>
    obtain ⟨k, hk, rfl, rfl⟩ := hrel
    by_cases hlt : k < l.length
    · obtain ⟨b, o, rfl⟩ := hrd.addr (by omega)
      have hcell := hrd.get (j := k) (u := byteV l[k]) (by rw [List.getElem?_map, List.getElem?_eq_getElem hlt]; rfl)
      unfold byteV at hcell
      have hx := n8_lo l[k]
      have hx2 := n8_hi l[k]
      have hr := Crc.reg_snoc (~~~s) (l.take k) l[k]
      rw [← List.take_succ_eq_append_getElem hlt] at hr
      have HR := Lib.hid hr
      clear hr
      generalize Crc.reg (~~~s) (l.take k) = r at *
      have h1 : ∀ c : Crc.W32, w.cell? ⟨0, (n32 (c &&& 15#32)).toNat, none⟩ = some (.int .u32 (n32 (Crc.Tn 4 (c &&& 15#32)))) := HH.out
      have e1 := xor_bv
      have e2 := xor_byte
      have e3 := and15_bv
      have e4 : ∀ (a : Crc.W32) (d : Int), d = 16 → n32 a / d = n32 (a >>> 4) := fun a d h => by rw [h]; exact shr4_bv a
      clear e5
      have h2 := and15_lt
      have h3 := fun c : Crc.W32 => n32_lo c
      go_wp2
      refine ⟨⟨k + 1, by omega, by go_num, ?_⟩, by simp [intOf]; omega⟩
      rw [HR.out, Crc.stepB_halves]
    · obtain rfl : k = l.length := by omega
      rw [List.take_length]
      go_wp2
      go_ret
      exact ⟨rfl, rfl⟩

theorem u32_ret {a b : Crc.W32} (h : a = b) : Ending.returned (.int .u32 (n32 a)) = .returned (.int .u32 (n32 b)) := by rw [h]

set_option maxRecDepth 100000 in
set_option maxHeartbeats 400000 in
theorem rmore_any (s : Crc.W32) (v : Value) (l : List UInt8) (w : World) (hb : RB w v l) :
    Calls Tryd.prog 41 #[.int .u32 (n32 s), v] w fun e w' => e = .returned (.int .u32 (n32 (Crc.more s l))) ∧ w = w' := by
  obtain ⟨A, c, rfl, hrd⟩ := hb
  have hn := hrd.nc
  have hs0 := n32_lo s
  have hs1 := n32_hi s
  have hm := hrd.cm
  unfold maxLen at hm
  have e5 := not_bv
  go_enter Tryd.func41, Tryd.ntmps41
  go_wp2
  go_loop [5, 6, 7, 8] (fun c i _ _ => ∃ k : Nat, k ≤ l.length ∧ i = .int .i64 k ∧ c = .int .u32 (n32 (Crc.reg (~~~s) (l.take k)))) (fun _ i _ _ => l.length - (intOf i).toNat)
  case atStart => exact ⟨0, Nat.zero_le _, rfl, rfl⟩
  case round =>
    obtain ⟨k, hk, rfl, rfl⟩ := hrel
    by_cases hlt : k < l.length
    · obtain ⟨b, o, rfl⟩ := hrd.addr (by omega)
      have hcell := hrd.get (j := k) (u := byteV l[k]) (by rw [List.getElem?_map, List.getElem?_eq_getElem hlt]; rfl)
      unfold byteV at hcell
      have hx := n8_lo l[k]
      have hx2 := n8_hi l[k]
      have hr := Crc.reg_snoc (~~~s) (l.take k) l[k]
      rw [← List.take_succ_eq_append_getElem hlt] at hr
      have HR := Lib.hid hr
      clear hr e5
      generalize Crc.reg (~~~s) (l.take k) = r at *
      have e2 := xor_byte
      have hk2 : (k : Int) < (l.length : Int) := by omega
      go_wp2
      clear e2
      generalize hy : r ^^^ l[k].toBitVec.setWidth 32 = y at *
      have HY := Lib.hid hy
      clear hy
      go_loop [5, 7, 8] (fun c j lo => ∃ m : Nat, m ≤ 8 ∧ j = .int .i64 m ∧ c = .int .u32 (n32 (Crc.Tn m y))) (fun _ j _ => 8 - (intOf j).toNat)
      case atStart => exact ⟨0, Nat.zero_le _, rfl, rfl⟩
      case round =>
        obtain ⟨m, hm8, rfl, rfl⟩ := hrel
        by_cases hlt8 : m < 8
        · have hz := Crc.Tn_succ m y
          have HZ := Lib.hid hz
          clear hz
          generalize Crc.Tn m y = z at *
          have z0 := n32_lo z
          have z1 := n32_hi z
          have e4 : ∀ (a : Crc.W32) (d : Int), d = 2 → n32 a / d = n32 (a >>> 1) := fun a d h => by rw [h]; exact shr1_bv a
          have e6 := poly_bv
          cases hb : z.getLsbD 0 with
          | true =>
            have h1 : bits .and .u32 (n32 z) 1 = 1 := by rw [and1_bv, if_pos hb]
            have ht := T_one hb
            have HT := Lib.hid ht
            clear ht hb
            go_wp2
            refine ⟨⟨m + 1, by omega, by go_num, ?_⟩, by simp [intOf]; omega⟩
            rw [HZ.out, HT.out]
          | false =>
            have h1 : bits .and .u32 (n32 z) 1 = 0 := by rw [and1_bv, hb]; rfl
            have ht := T_nil hb
            have HT := Lib.hid ht
            clear ht hb
            go_wp2
            refine ⟨⟨m + 1, by omega, by go_num, ?_⟩, by simp [intOf]; omega⟩
            rw [HZ.out, HT.out]
        · obtain rfl : m = 8 := by omega
          go_wp2
          refine ⟨⟨k + 1, by omega, by go_num, ?_⟩, by simp [intOf]; omega⟩
          rw [HR.out, ← HY.out]; rfl
    · obtain rfl : k = l.length := by omega
      rw [List.take_length]
      go_wp2
      go_ret
      exact ⟨rfl, rfl⟩

set_option maxHeartbeats 400000 in
theorem sum_any (v : Value) (l : List UInt8) (w : World) (hh : Halves w) (hb : RB w v l) :
    Calls Tryd.prog 33 #[v] w fun e w' => e = .returned (.int .u32 (n32 (Crc.sum l))) ∧ w = w' := by
  have H := Lib.hid (more_any 0#32 v l w hh hb)
  rw [show n32 0#32 = 0 by unfold n32; rfl] at H
  clear hh hb
  go_enter Tryd.func33, Tryd.ntmps33
  go_wp2_with (go_at_call 40; refine H.out.mono ?_; rintro e w' ⟨rfl, rfl⟩)
  go_ret
  exact ⟨rfl, rfl⟩

set_option maxHeartbeats 400000 in
theorem rsum_any (v : Value) (l : List UInt8) (w : World) (hb : RB w v l) :
    Calls Tryd.prog 37 #[v] w fun e w' => e = .returned (.int .u32 (n32 (Crc.sum l))) ∧ w = w' := by
  have H := Lib.hid (rmore_any 0#32 v l w hb)
  rw [show n32 0#32 = 0 by unfold n32; rfl] at H
  clear hb
  go_enter Tryd.func37, Tryd.ntmps37
  go_wp2_with (go_at_call 41; refine H.out.mono ?_; rintro e w' ⟨rfl, rfl⟩)
  go_ret
  exact ⟨rfl, rfl⟩

def tailL (s : Crc.W32) : List UInt8 := [UInt8.ofNat (s.toNat % 256), UInt8.ofNat (s.toNat / 256 % 256), UInt8.ofNat (s.toNat / 65536 % 256), UInt8.ofNat (s.toNat / 16777216)]
theorem tailL_map (s : Crc.W32) : (tailL s).map byteV = [.int .u8 (n32 s % 256), .int .u8 (n32 s / 256 % 256), .int .u8 (n32 s / 65536 % 256), .int .u8 (n32 s / 16777216)] := by
  have hs := s.isLt
  simp only [tailL, List.map_cons, List.map_nil, byteV, n32]
  rw [n8_of (by omega), n8_of (by omega), n8_of (by omega), n8_of (by omega)]
  rfl
def sealed (l : List UInt8) : List UInt8 := l ++ tailL (Crc.sum l)

set_option maxHeartbeats 400000 in
theorem tail_any (s : Crc.W32) (w : World) :
    Calls Tryd.prog 32 #[.int .u32 (n32 s)] w fun e w' => ∃ v, e = .returned v ∧ OB 5 w.heap.size w' v (tailL s) ∧ Ext w w' := by
  have h0 := n32_lo s
  have h1 := n32_hi s
  go_enter Tryd.func32, Tryd.ntmps32
  go_wp2
  go_ret
  refine ⟨_, rfl, ?_, (Ext.refl _).alloc _⟩
  unfold OB
  rw [tailL_map]
  exact World.ownsRow_lit w _ 4 (Nat.le_refl _) (by unfold maxLen; omega) rfl

set_option maxHeartbeats 400000 in
theorem seal_any (v : Value) (l : List UInt8) (w : World) (hh : Halves w) (hb : RB w v l) (hl : l.length ≤ 1000000) :
    Calls Tryd.prog 20 #[v] w fun e w' => ∃ v', e = .returned v' ∧ OB 5 w.heap.size w' v' (sealed l) ∧ Ext w w' := by
  obtain ⟨A, c, rfl⟩ := hb.form
  have HS := Lib.hid (sum_any _ l w hh hb)
  have HB := Lib.hid hb
  clear hb hh
  generalize hs : Crc.sum l = s at *
  have HSS := Lib.hid hs
  have hfl : [l, tailL s].flatten.length ≤ 1099511627776 := by simp [tailL]; omega
  have HF := Lib.hid hfl
  clear hs hfl
  go_enter Tryd.func20, Tryd.ntmps20
  go_wp2_with (first
    | (go_at_call 33; refine HS.out.mono ?_; rintro e w' ⟨rfl, rfl⟩)
    | (go_at_call 32; refine (tail_any _ _).mono ?_; rintro e w1 ⟨v1, rfl, ho1, he1⟩; obtain ⟨A1, c1, rfl⟩ := ho1.form)
    | (go_at_call 19; refine (concat_any _ [l, tailL s] _ (RBs.lit2 _ (HB.out.ext he1) ho1.rb) HF.out).mono ?_; rintro e w2 ⟨v2, rfl, ho2, he2⟩))
  go_ret
  refine ⟨_, rfl, ?_, (he1.alloc _).trans he2⟩
  have := ho2.low ((he1.alloc _).size)
  simpa [sealed, HSS.out] using this

def openL (l : List UInt8) : Option (List UInt8) :=
  if l.length < 4 then none else if l.drop (l.length - 4) == tailL (Crc.sum (l.take (l.length - 4))) then some (l.take (l.length - 4)) else none

def OpenPost (l : List UInt8) (w : World) (e : Ending) (w' : World) : Prop :=
  (match openL l with
  | none => e = .returned (.tuple #[.slice none 0 0, .int .i64 20])
  | some d => ∃ v', e = .returned (.tuple #[v', .int .i64 0]) ∧ OB 5 w.heap.size w' v' d) ∧ Ext w w'

theorem OpenPost.no {l : List UInt8} {w w' : World} (h : openL l = none) (he : Ext w w') : OpenPost l w (.returned (.tuple #[.slice none 0 0, .int .i64 20])) w' := by
  unfold OpenPost; rw [h]; exact ⟨rfl, he⟩
theorem OpenPost.yes {l d : List UInt8} {w w' : World} {v : Value} (h : openL l = some d) (ho : OB 5 w.heap.size w' v d) (he : Ext w w') : OpenPost l w (.returned (.tuple #[v, .int .i64 0])) w' := by
  unfold OpenPost; rw [h]; exact ⟨⟨v, rfl, ho⟩, he⟩
theorem openL_at {l : List UInt8} {m : Nat} (h : l.length = m + 4) : openL l = if l.drop m == tailL (Crc.sum (l.take m)) then some (l.take m) else none := by
  unfold openL
  rw [if_neg (by omega), show l.length - 4 = m by omega]

theorem tailL_at (s : Crc.W32) : byteV ((tailL s).getD 0 0) = .int .u8 (n32 s % 256) ∧ byteV ((tailL s).getD 1 0) = .int .u8 (n32 s / 256 % 256) ∧
    byteV ((tailL s).getD 2 0) = .int .u8 (n32 s / 65536 % 256) ∧ byteV ((tailL s).getD 3 0) = .int .u8 (n32 s / 16777216) := by
  have h := tailL_map s
  simp only [tailL, List.map_cons, List.map_nil, List.cons.injEq] at h
  simpa [tailL] using h
theorem tailL_take (s : Crc.W32) {k : Nat} (h : k < 4) : (tailL s).take (k + 1) = (tailL s).take k ++ [(tailL s).getD k 0] := by
  have : k < (tailL s).length := h
  rw [List.take_succ_eq_append_getElem this]
  simp [this]

set_option maxRecDepth 100000 in
set_option maxHeartbeats 400000 in
theorem rseal_any (v : Value) (l : List UInt8) (w : World) (hb : RB w v l) (hl : l.length ≤ 1000000) :
    Calls Tryd.prog 26 #[v] w fun e w' => ∃ v', e = .returned v' ∧ OB 5 w.heap.size w' v' (sealed l) ∧ Ext w w' := by
  obtain ⟨A, c, rfl⟩ := hb.form
  have HS := Lib.hid (rsum_any _ l w hb)
  have HB := Lib.hid hb
  clear hb
  generalize hs : Crc.sum l = s at *
  have HSS := Lib.hid hs
  clear hs
  have h0 := n32_lo s
  have h1 := n32_hi s
  have hown : (w.alloc (.cells #[] 5)).ownsRow w.heap.size 5 1 (.slice (some ⟨w.heap.size, 0, none⟩) 0 0) 0 [] :=
    World.ownsRow_lit w #[] 0 (Nat.le_refl _) (by unfold maxLen; omega) rfl
  have HO := Lib.hid hown
  clear hown
  go_enter Tryd.func26, Tryd.ntmps26
  go_wp2_with (first
    | (go_at_call 37; refine HS.out.mono ?_; rintro e w' ⟨rfl, rfl⟩)
    | (at_builtin; refine wpList_app rfl elemB _ (.tmp 8) (.tmp 9) rfl w.heap.size _ 0 [] rfl HO.out _ l.length (l.map byteV) rfl (HB.out.ext ((Ext.refl _).alloc _)) (one_byteV l) (by omega) (by unfold maxLen; omega) (by simp) ?_; intro v1 w1 ha))
  have ho1 : OB 5 w.heap.size w1 v1 l := by have := ha.own; simpa [OB] using this
  have he1 : Ext w w1 := ha.ext ((Ext.refl _).alloc _) rfl HO.out
  clear ha
  go_loopw [4, 5] (fun y i wr => ∃ k : Nat, k ≤ 4 ∧ i = .int .i64 k ∧ OB 5 w.heap.size wr y (l ++ (tailL s).take k) ∧ Ext w wr) (fun _ i _ => 4 - (intOf i).toNat)
  case atStart => exact ⟨0, by omega, rfl, by simpa using ho1, he1⟩
  case round =>
    obtain ⟨k, hk, rfl, hown, hext⟩ := hrel
    have HO := Lib.hid hown
    obtain ⟨A2, c2, rfl⟩ := hown.form
    clear hown
    have ht := tailL_at s
    have HT := Lib.hid ht
    clear ht
    by_cases hlt : k < 4
    · have hst := tailL_take s hlt
      have HST := Lib.hid hst
      clear hst
      have hle := HO.out.rb
      have hlen : (l ++ (tailL s).take k).length ≤ 1000004 := by simp [tailL]; omega
      have HL := Lib.hid hlen
      generalize hl' : l ++ (tailL s).take k = l' at *
      have hst2 : l ++ (tailL s).take (k + 1) = l' ++ [(tailL s).getD k 0] := by rw [HST.out, ← hl', List.append_assoc]
      have HS2 := Lib.hid hst2
      clear hle hl' hst2 HST
      have hk4 : k = 0 ∨ k = 1 ∨ k = 2 ∨ k = 3 := by omega
      rcases hk4 with rfl | rfl | rfl | rfl
      all_goals
        go_wp2_with (at_builtin; refine wpList_app rfl elemB _ (.tmp 15) (.tmp 21) rfl w.heap.size _ l'.length (l'.map byteV) rfl (ownsRow_ext HO.out ((Ext.refl _).alloc _)) _ 1 _ rfl (Rd.lit _ _ _ 1 rfl (by unfold maxLen; omega)) (by intro u hu; simp at hu; subst hu; rfl) (by omega) (by unfold maxLen; omega) (by have := hext.size; simp; omega) ?_; intro v' w' ha)
        go_roundw
        case rel =>
          first | refine ⟨1, by omega, rfl, ?_, ?_⟩ | refine ⟨2, by omega, rfl, ?_, ?_⟩ | refine ⟨3, by omega, rfl, ?_, ?_⟩ | refine ⟨4, by omega, rfl, ?_, ?_⟩
          · exact HS2.out ▸ OB.snoc ha.own (by first | exact HT.out.1 | exact HT.out.2.1 | exact HT.out.2.2.1 | exact HT.out.2.2.2)
          · exact ha.ext (hext.alloc _) rfl (ownsRow_ext HO.out ((Ext.refl _).alloc _))
        case measure => simp [intOf]
    · obtain rfl : k = 4 := by omega
      go_wp2
      go_ret
      exact ⟨_, rfl, by have := HO.out; rw [sealed, HSS.out]; simpa [tailL] using this, hext⟩

theorem shrk_bv (a : Crc.W32) (k : Nat) : n32 a / 2 ^ k = n32 (a >>> k) := by
  unfold n32
  rw [BitVec.toNat_ushiftRight, Nat.shiftRight_eq_div_pow]
  norm_cast
theorem shrk_one {a : Crc.W32} {k : Nat} (h : a.getLsbD k = true) : bits .and .u32 (n32 a / 2 ^ k) 1 = 1 := by
  rw [shrk_bv, and1_bv, BitVec.getLsbD_ushiftRight, Nat.add_zero, if_pos h]
theorem shrk_nil {a : Crc.W32} {k : Nat} (h : a.getLsbD k = false) : bits .and .u32 (n32 a / 2 ^ k) 1 = 0 := by
  rw [shrk_bv, and1_bv, BitVec.getLsbD_ushiftRight, Nat.add_zero, h]; rfl

/-- the matrix of f lies in block g -/
def Mat (w : World) (g : Nat) (f : Crc.W32 → Crc.W32) : Prop := ∀ i, i < 32 → w.cell? ⟨g, i, none⟩ = some (.int .u32 (n32 (f (Crc.bit i))))
theorem Mat.ext {w w' : World} {g : Nat} {f : Crc.W32 → Crc.W32} (h : Mat w g f) (he : Ext w w') : Mat w' g f := fun i hi => he.cell (h i hi)

theorem Mat.congr {w : World} {g : Nat} {f f' : Crc.W32 → Crc.W32} (h : Mat w g f) (he : ∀ c, f c = f' c) : Mat w g f' := fun i hi => by rw [← he]; exact h i hi
theorem shl_bit {k : Nat} (h : k < 32) : n32 (Crc.bit k) = 2 ^ k := by
  unfold n32 Crc.bit
  rw [BitVec.toNat_shiftLeft, Nat.shiftLeft_eq]
  have : 2 ^ k < 2 ^ 32 := Nat.pow_lt_pow_right (by omega) h
  rw [show (1#32).toNat = 1 from rfl, Nat.one_mul, Nat.mod_eq_of_lt this]
  norm_cast

theorem sealed_eq {l : List UInt8} {m : Nat} (_ : l.length = m + 4) : (sealed (l.take m) == l) = (l.drop m == tailL (Crc.sum (l.take m))) := by
  unfold sealed
  generalize tailL (Crc.sum (l.take m)) = t
  rw [Bool.eq_iff_iff, beq_iff_eq, beq_iff_eq]
  constructor
  · intro h
    have h2 := List.take_append_drop m l
    rw [← h2] at h
    rw [List.take_append_drop] at h
    have := h.trans h2.symm
    exact (List.append_cancel_left this).symm
  · intro h
    rw [← h, List.take_append_drop]

def ROpenPost (l : List UInt8) (w : World) (e : Ending) (w' : World) : Prop :=
  (match openL l with
  | none => e = .returned (.tuple #[.slice none 0 0, .bool false])
  | some d => ∃ v', e = .returned (.tuple #[v', .bool true]) ∧ OB 5 w.heap.size w' v' d) ∧ Ext w w'
theorem ROpenPost.no {l : List UInt8} {w w' : World} (h : openL l = none) (he : Ext w w') : ROpenPost l w (.returned (.tuple #[.slice none 0 0, .bool false])) w' := by
  unfold ROpenPost; rw [h]; exact ⟨rfl, he⟩
theorem ROpenPost.yes {l d : List UInt8} {w w' : World} {v : Value} (h : openL l = some d) (ho : OB 5 w.heap.size w' v d) (he : Ext w w') : ROpenPost l w (.returned (.tuple #[v, .bool true])) w' := by
  unfold ROpenPost; rw [h]; exact ⟨⟨v, rfl, ho⟩, he⟩

end Go.Proofs.YtklnbmcfnnmliaaDoor
