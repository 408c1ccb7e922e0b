/-
  The library's slices functions at bytes: Clone, Grow, Concat, Equal.
-/
import Derived.Test.YtaiaimobdpkikaaDoorChecked
import Derived.Test.YtaiaimobdpkikaaDoorMem
import Derived.WalkKit
import Derived.WalkSpells
import Derived.WalkLawsBesides
namespace Go.Proofs.YtaiaimobdpkikaaDoor
open Go.RowKit Go.Ox

theorem elemB : Elem Tryd.prog 23 5 (.int .u8 0) 1 1 := Elem.mk' Tryd.underlying23 (by kernel_rfl) rfl (by omega)

theorem strB {w : World} {v : Value} {l : List UInt8} (h : RB w v l) : (convert 23 9 v).run Tryd.prog w = .ok (.string ⟨l.toArray⟩) w :=
  run_str Tryd.underlying23 Tryd.underlying5 Tryd.underlying9 h
theorem convConst (w : World) (C : Array Value) (n c : Nat) : (convert 23 23 (.slice (some ⟨w.heap.size, 0, none⟩) n c)).run Tryd.prog (w.alloc (.cells C 5)) = .ok (.slice (some ⟨w.heap.size, 0, none⟩) n c) (w.alloc (.cells C 5 (C.size, C.size + 1))) :=
  Lib.run_convert_bytes_const (P := Tryd.prog) w 23 5 C n c Tryd.underlying23 Tryd.underlying5
theorem convC {B : Nat} {w : World} {v : Value} {l : List UInt8} (h : FB B w v l) : ∃ w', (convert 23 23 v).run Tryd.prog w = .ok v w' ∧ ExtC B w w' :=
  run_conv_const Tryd.underlying23 Tryd.underlying5 h
theorem madeB (n : Nat) : (madeCells (Value.int .u8 0).cells (n * 1)).toList = (List.replicate n (0 : UInt8)).map byteV := by
  rw [Nat.mul_one, show (Value.int .u8 0).cells = #[Value.int .u8 0] from rfl, toList_madeCells_one, List.map_replicate]
  congr 1
  unfold byteV n8; rfl
theorem str_eq (a b : List UInt8) : ((⟨a.toArray⟩ : ByteArray) == ⟨b.toArray⟩) = (a == b) := by
  show (a.toArray == b.toArray) = (a == b)
  simp

theorem eqlNilB (w : World) (A : Option Addr) (n c n' c' : Nat) : (binOp .eql 23 (.slice A n c) (.slice none n' c')).run Tryd.prog w = .ok (.bool A.isNone) w :=
  Lib.run_eql_slice_nil (P := Tryd.prog) w 23 5 A n c n' c' Tryd.underlying23

set_option maxRecDepth 100000 in
set_option maxHeartbeats 400000 in
theorem clone_any (v : Value) (l : List UInt8) (w : World) (hb : RB w v l) (hl : l.length ≤ 1099511627776) :
    Calls Tryd.prog 23 #[v] w fun e w' => ∃ v', e = .returned v' ∧ OB 5 w.heap.size w' v' l ∧ Ext w w' := by
  have HB := Lib.hid hb
  obtain ⟨A, c, rfl, hrd⟩ := hb
  have he := eqlNilB
  cases A with
  | none =>
    have hn : l.length = 0 := by have := hrd.nil rfl; have := hrd.nc; omega
    have := List.eq_nil_of_length_eq_zero hn
    subst this
    have h0 := hrd.nil rfl
    subst h0
    clear hrd hn
    go_enter Tryd.func23, Tryd.ntmps23
    go_wp2
    go_ret
    exact ⟨_, rfl, World.ownsRow_nil _ _ _ _, Ext.refl _⟩
  | some ad =>
    clear hrd
    have hown : (w.alloc (.cells #[] 5)).ownsRow w.heap.size 5 1 (.slice (some ⟨w.heap.size, 0, none⟩) 0 0) 0 [] :=
      World.ownsRow_lit w #[] 0 (Nat.le_refl _) (by unfold maxLen; omega) rfl
    have HO := Lib.hid hown
    clear hown
    go_enter Tryd.func23, Tryd.ntmps23
    go_wp2_with (at_builtin; refine wpList_app rfl elemB _ _ _ rfl w.heap.size _ 0 [] rfl HO.out _ l.length (l.map byteV) rfl (HB.out.ext ((Ext.refl _).alloc _)) (one_byteV l) (by omega) (by unfold maxLen; omega) (by simp) ?_; intro v' w' ha)
    go_ret
    exact ⟨_, rfl, by have := ha.own; simpa [OB] using this, ha.ext ((Ext.refl _).alloc _) rfl HO.out⟩

theorem take_eq_step {l1 l2 : List UInt8} {k : Nat} (h1 : k < l1.length) (h2 : k < l2.length) (h : l1.take k = l2.take k) (he : l1[k] = l2[k]) : l1.take (k + 1) = l2.take (k + 1) := by
  rw [List.take_succ_eq_append_getElem h1, List.take_succ_eq_append_getElem h2, h, he]
theorem ne_of_at {l1 l2 : List UInt8} {k : Nat} (h1 : k < l1.length) (h2 : k < l2.length) (he : l1[k] ≠ l2[k]) : l1 ≠ l2 := fun h => by subst h; exact he rfl

set_option maxRecDepth 100000 in
set_option maxHeartbeats 400000 in
theorem equal_any (v1 v2 : Value) (l1 l2 : List UInt8) (w : World) (hb1 : RB w v1 l1) (hb2 : RB w v2 l2) :
    Calls Tryd.prog 21 #[v1, v2] w fun e w' => e = .returned (.bool (l1 == l2)) ∧ Ext w w' := by
  obtain ⟨A1, c1, rfl, hr1⟩ := hb1
  obtain ⟨A2, c2, rfl, hr2⟩ := hb2
  have hn1 := hr1.nc
  have hm1 := hr1.cm
  have hn2 := hr2.nc
  have hm2 := hr2.cm
  unfold maxLen at hm1 hm2
  by_cases hlen : l1.length = l2.length
  · have hne : ((l1.length : Int) != (l2.length : Int)) = false := by simp [hlen]
    have HL := Lib.hid hlen
    have hlen1 : l1.length ≤ l2.length := by omega
    have hlen2 : l2.length ≤ l1.length := by omega
    clear hlen
    go_enter Tryd.func21, Tryd.ntmps21
    go_wp2
    go_loopw [5, 13] (fun _ i wr => ∃ k : Nat, k ≤ l1.length ∧ i = .int .i64 k ∧ l1.take k = l2.take k ∧ Ext w wr) (fun _ i _ => l1.length - (intOf i).toNat)
    case atStart => exact ⟨0, Nat.zero_le _, rfl, rfl, Ext.refl _⟩
    case round =>
      obtain ⟨k, hk, rfl, hpre, hext⟩ := hrel
      have HP := Lib.hid hpre
      clear hpre
      by_cases hlt : k < l1.length
      · obtain ⟨b1, o1, rfl, hc1⟩ := (hr1.ext hext).byte hlt
        obtain ⟨b2, o2, rfl, hc2⟩ := (hr2.ext hext).byte (k := k) (by omega)
        have hb1 : (k : Int) < (l1.length : Int) := by omega
        have hb2 : (k : Int) < (l2.length : Int) := by omega
        have hb0 : 0 ≤ (k : Int) := by omega
        by_cases hxy : l1[k] = l2[k]'(by omega)
        · have hd : (n8 l1[k] != n8 (l2[k]'(by omega))) = false := by rw [hxy]; simp
          have HX := Lib.hid hxy
          clear hxy
          go_wp2
          go_quiet (fail)
          go_wp2
          go_roundw
          case rel => exact ⟨k + 1, by omega, by go_num, take_eq_step hlt (by omega) HP.out HX.out, hext.drewN _⟩
          case measure => simp [intOf]; omega
        · have hd : (n8 l1[k] != n8 (l2[k]'(by omega))) = true := by simp [n8_ne hxy]
          have HX := Lib.hid hxy
          clear hxy
          go_wp2
          go_quiet (fail)
          go_wp2
          go_ret
          exact ⟨by have := ne_of_at hlt (by omega) HX.out; simp [this], hext.drewN _⟩
      · obtain rfl : k = l1.length := by omega
        go_wp2
        go_ret
        refine ⟨?_, hext⟩
        have := HP.out
        rw [List.take_length, HL.out, List.take_length] at this
        simp [this]
  · have hne : ((l1.length : Int) != (l2.length : Int)) = true := by simp; omega
    go_enter Tryd.func21, Tryd.ntmps21
    go_wp2
    go_ret
    exact ⟨by have : l1 ≠ l2 := fun h => hlen (by rw [h]); simp [this], Ext.refl _⟩

set_option maxRecDepth 100000 in
set_option maxHeartbeats 400000 in
theorem grow_nil (n : Nat) (w : World) (hn : n ≤ 1099511627776) :
    Calls Tryd.prog 26 #[.slice none 0 0, .int .i64 n] w fun e w' => ∃ v, e = .returned v ∧ w'.ownsRow w.heap.size 5 1 v 0 [] ∧ Ext w w' := by
  by_cases h0 : 0 < n
  · obtain ⟨i, hi, hz, hs, hb⟩ := elemB.info
    have happ := Go.Lib.run_append_nil_zeros (P := Tryd.prog) w 23 3 23 5 i (.int .u8 0) .i64 .i64 Tryd.underlying23 Tryd.underlying3 hi hz n h0 (by omega) (by omega) (by rw [hb]; omega)
    have HA := Lib.hid happ
    have hmade := World.ownsRow_made (base := w.heap.size) (e := 5) (size := 1) w.drew (Builtin.zeroCells (Value.int .u8 0).cells n ++ Builtin.zeroCells (Value.int .u8 0).cells (grownCap w n 0 5 - n)) (grownCap w n 0 5) (Nat.le_refl _)
      (grownCap_le_maxLen _ _ _ _ (by unfold maxLen; omega)) (by
        have := grownCap_ge w n 0 5
        rw [Array.size_append, size_zeroCells, size_zeroCells]
        simp [Value.cells]; omega)
    have HM := Lib.hid hmade
    clear happ hmade hz hs hb hi
    have hn0 : (0 : Int) < (n : Int) := by omega
    go_enter Tryd.func26, Tryd.ntmps26
    go_wp2_with (at_builtin; refine Go.Lib.wpList_append_run _ rfl (.tmp 20) (.tmp 21) 23 3 rfl (.slice none 0 0) (.int .i64 n) rfl rfl _ _ HA.out ?_; generalize Builtin.zeroCells (Value.int .u8 0).cells n ++ Builtin.zeroCells (Value.int .u8 0).cells (grownCap w n 0 5 - n) = cs at *; generalize grownCap w n 0 5 = cp at *)
    go_ret
    exact ⟨_, rfl, HM.out, (Ext.refl _).drew.alloc _⟩
  · obtain rfl : n = 0 := by omega
    go_enter Tryd.func26, Tryd.ntmps26
    go_wp2
    go_ret
    exact ⟨_, rfl, World.ownsRow_nil _ _ _ _, Ext.refl _⟩

/-- the slice v reads as slices of bytes -/
structure RBs (w : World) (v : Value) (ls : List (List UInt8)) : Prop where
  ex : ∃ vs : List Value, Rd w 1 v ls.length vs ∧ ∀ (k : Nat) (hk : k < ls.length), ∃ u, vs[k]? = some u ∧ RB w u ls[k]

theorem RBs.lit2 {w : World} {v1 v2 : Value} {l1 l2 : List UInt8} (E : Nat) (h1 : RB w v1 l1) (h2 : RB w v2 l2) : RBs (w.alloc (.cells #[v1, v2] E)) (.slice (some ⟨w.heap.size, 0, none⟩) 2 2) [l1, l2] := by
  refine ⟨[v1, v2], Rd.lit w #[v1, v2] E 2 rfl (by unfold maxLen; omega), fun k hk => ?_⟩
  match k, hk with
  | 0, _ => exact ⟨v1, rfl, h1.ext ((Ext.refl _).alloc _)⟩
  | 1, _ => exact ⟨v2, rfl, h2.ext ((Ext.refl _).alloc _)⟩
theorem flat_snoc {α : Type} (ls : List (List α)) {k : Nat} (h : k < ls.length) : (ls.take (k + 1)).flatten = (ls.take k).flatten ++ ls[k] := by
  rw [List.take_succ_eq_append_getElem h, List.flatten_append]; simp
theorem flat_le {α : Type} (ls : List (List α)) (k : Nat) : (ls.take k).flatten.length ≤ ls.flatten.length := by
  conv => rhs; rw [← List.take_append_drop k ls]
  rw [List.flatten_append, List.length_append]; omega

set_option maxRecDepth 100000 in
set_option maxHeartbeats 1000000 in
theorem concat_any (v : Value) (ls : List (List UInt8)) (w : World) (hb : RBs w v ls) (hl : ls.flatten.length ≤ 1099511627776) :
    Calls Tryd.prog 24 #[v] w fun e w' => ∃ v', e = .returned v' ∧ OB 5 w.heap.size w' v' ls.flatten ∧ Ext w w' := by
  obtain ⟨vs, ⟨A, c, rfl, hrd⟩, hat⟩ := hb
  have HAT := Lib.hid hat
  clear hat
  have hn := hrd.nc
  have hm := hrd.cm
  unfold maxLen at hm
  go_enter Tryd.func24, Tryd.ntmps24
  go_wp2
  go_loop [3, 5, 11] (fun z _ i => ∃ k : Nat, k ≤ ls.length ∧ i = .int .i64 k ∧ z = .int .i64 ((ls.take k).flatten.length : Nat)) (fun _ _ i => ls.length - (intOf i).toNat)
  case atStart => exact ⟨0, Nat.zero_le _, rfl, rfl⟩
  case round =>
    obtain ⟨k, hk, rfl, rfl⟩ := hrel
    have hfl := flat_le ls k
    by_cases hlt : k < ls.length
    · obtain ⟨b, o, rfl⟩ := hrd.addr (by omega)
      obtain ⟨u, hu, ⟨A', c', rfl, hr'⟩⟩ := HAT.out k hlt
      have hcell := hrd.get hu
      have hsn := congrArg List.length (flat_snoc ls hlt)
      rw [List.length_append] at hsn
      have hfl2 := flat_le ls (k + 1)
      have HS := Lib.hid hsn
      have hsn2 : (ls.take k).flatten.length + ls[k].length ≤ 1099511627776 := by omega
      clear hsn hu
      have hk0 : (k : Int) < (ls.length : Int) := by omega
      generalize (ls.take k).flatten.length = z at *
      go_wp2
      go_round
      case rel => exact ⟨k + 1, by omega, by go_num, by rw [HS.out]; go_num⟩
      case measure => simp [intOf]; omega
    · obtain rfl : k = ls.length := by omega
      rw [List.take_length] at *
      clear hfl
      have hG := grow_nil ls.flatten.length w hl
      generalize hz : ls.flatten.length = z at *
      have HZ := Lib.hid hz
      have HG := Lib.hid hG
      clear hG hz
      go_wp2_with (go_at_call 26; refine HG.out.mono ?_; rintro e w1 ⟨v1, rfl, ho1, he1⟩)
      go_loopw [6, 8, 27] (fun y _ i wr => ∃ (k : Nat) (l' : List UInt8), k ≤ ls.length ∧ i = .int .i64 k ∧ l' = (ls.take k).flatten ∧ OB 5 w.heap.size wr y l' ∧ Ext w wr) (fun _ _ i _ => ls.length - (intOf i).toNat)
      case atStart => exact ⟨0, [], Nat.zero_le _, rfl, rfl, ho1, he1⟩
      case round =>
        obtain ⟨k, l', hk, rfl, hl', hown, hext⟩ := hrel
        have HL' := Lib.hid hl'
        have hfl := flat_le ls k
        rw [← hl', HZ.out] at hfl
        clear hl'
        by_cases hlt : k < ls.length
        · obtain ⟨b, o, rfl⟩ := hrd.addr (by omega)
          obtain ⟨u, hu, hru⟩ := HAT.out k hlt
          have hcell := (hrd.ext hext).get hu
          have hru' := hru.ext hext
          obtain ⟨A', c', rfl, hr'⟩ := hru
          have hsn := flat_snoc ls hlt
          have hfl2 := flat_le ls (k + 1)
          rw [hsn, ← HL'.out, List.length_append, HZ.out] at hfl2
          rw [← HL'.out] at hsn
          have HS := Lib.hid hsn
          have HR := Lib.hid hru'
          have HO := Lib.hid hown
          clear hsn hu hru' hown
          have hk0 : (k : Int) < (ls.length : Int) := by omega
          go_wp2_with (at_builtin; refine wpList_app rfl elemB _ _ _ rfl w.heap.size _ l'.length (l'.map byteV) rfl HO.out _ ls[k].length (ls[k].map byteV) rfl HR.out (one_byteV _) (by omega) (by unfold maxLen; omega) hext.size ?_; intro v' w' ha)
          go_roundw
          case rel => exact ⟨k + 1, l' ++ ls[k], by omega, by go_num, HS.out.symm, by have := ha.own; simpa [OB] using this, ha.ext hext rfl HO.out⟩
          case measure => simp [intOf]; omega
        · obtain rfl : k = ls.length := by omega
          rw [List.take_length] at HL'
          go_wp2
          go_ret
          exact ⟨_, rfl, by rw [← HL'.out]; exact hown, hext⟩
end Go.Proofs.YtaiaimobdpkikaaDoor
