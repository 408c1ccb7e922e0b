/-
  The walks of package count: the moments of a place, the sum, a clone.
-/
import Derived.Test.YtngdlahgihbmhaaCnt3
import Derived.Test.YtngdlahgihbmhaaMomRef
import Derived.Test.YtngdlahgihbmhaaPair
namespace Go.Proofs.Ytngdlahgihbmhaa
open Go.RowKit Go.Ox Go.Shelf
set_option linter.unusedVariables false
set_option linter.unusedSimpArgs false
attribute [local irreducible] OP RP

/-! ### two places, two stamps -/
theorem eqInPl (a b c d : Int) (w : World) : (Op.equalIn 10000 30 (.agg #[.int .i64 a, .int .i64 b]) (.agg #[.int .i64 c, .int .i64 d])).run Try.prog w = .ok (pairB a b c d) w := by
  have u3 := Try.underlying3
  have a3 := Try.isAgg3
  have z3 := Try.sizeOf3
  have hS : Try.prog.underlying 30 = some (.struct (Try.prog.fieldsOf 30)) := by kernel_rfl
  have hp : Try.prog.stoodInHeld 30 = false := by kernel_rfl
  rw [show (10000 : Nat) = 9999 + 1 from rfl, run_equalIn_agg w 9999 30 _ _ hS hp]
  simp only [Program.fieldsOf, Try.underlying30]
  rw [pairEq]
  go_simp
  by_cases h1 : a = c <;> by_cases h2 : b = d <;> simp [h1, h2]
theorem eqPl (a b c d : Int) (w : World) : (binOp .eql 30 (.agg #[.int .i64 a, .int .i64 b]) (.agg #[.int .i64 c, .int .i64 d])).run Try.prog w = .ok (.bool (pairB a b c d)) w := by
  rw [run_eql_struct, eqInPl]; rfl
theorem guardPl : Try.prog.eqGuardType Try.prog.depth 30 = false := by kernel_rfl
theorem guardS : Try.prog.eqGuardType Try.prog.depth 34 = false := by kernel_rfl
/-- are two stamps one? shut to simp -/
def stB (x y : Cnt.S) : Bool := decide (x = y)
theorem eqInS (x y : Cnt.S) (w : World) : (Op.equalIn 10000 34 (sV x) (sV y)).run Try.prog w = .ok (stB x y) w := by
  have u3 := Try.underlying3
  have a3 := Try.isAgg3
  have z3 := Try.sizeOf3
  have hS : Try.prog.underlying 34 = some (.struct (Try.prog.fieldsOf 34)) := by kernel_rfl
  have hp : Try.prog.stoodInHeld 34 = false := by kernel_rfl
  have h1 := eqInP
  have h2 := eqInM2
  have a1 := Try.isAgg30
  have a2 := Try.isAgg32
  have z1 := Try.sizeOf30
  have z2 := Try.sizeOf32
  rw [show (10000 : Nat) = 9999 + 1 from rfl, run_equalIn_agg w 9999 34 _ _ hS hp]
  simp only [Program.fieldsOf, Try.underlying34]
  obtain ⟨⟨⟨x1, x2⟩, x3, x4⟩, x5⟩ := x
  obtain ⟨⟨⟨y1, y2⟩, y3, y4⟩, y5⟩ := y
  go_simp
  unfold pairE stB
  by_cases q1 : x1 = y1 <;> by_cases q2 : x2 = y2 <;> by_cases q3 : x3 = y3 <;> by_cases q4 : x4 = y4 <;> by_cases q5 : x5 = y5 <;> simp [q1, q2, q3, q4, q5]
theorem eqS (x y : Cnt.S) (w : World) : (binOp .eql 34 (sV x) (sV y)).run Try.prog w = .ok (.bool (stB x y)) w := by
  rw [run_eql_struct, eqInS]; rfl
theorem neS (x y : Cnt.S) (w : World) : (binOp .neq 34 (sV x) (sV y)).run Try.prog w = .ok (.bool (!stB x y)) w := by
  rw [run_neq_struct, eqInS]; rfl

/-- the moments of a place -/
def momsOf (L : List Cnt.S) (p : Int × Int) : List Mom.M := (L.filter fun x => decide (x.1.1 = p)).map (·.1.2)
theorem momsOf_s (L : List Cnt.S) (p : Int × Int) (k : Nat) (h : k < L.length) : momsOf (L.take (k + 1)) p = momsOf (L.take k) p ++ (if L[k].1.1 = p then [L[k].1.2] else []) := by
  unfold momsOf
  rw [List.take_succ_eq_append_getElem h, List.filter_append, List.map_append]
  congr 1
  by_cases hq : L[k].1.1 = p <;> simp [hq]
theorem momsOf_len (L : List Cnt.S) (p : Int × Int) : (momsOf L p).length ≤ L.length := by
  unfold momsOf
  rw [List.length_map]
  exact List.length_filter_le _ _
theorem re5 {w : World} {A : Option Addr} {n c : Nat} {l : List Cnt.S} (h : RE w (.slice A n c) l) {i : Nat} (hi : i < l.length) :
    ∃ b o, A = some ⟨b, o, none⟩ ∧ w.cell? ⟨b, o + i * 5, none⟩ = some (.int .i64 l[i].1.1.1) ∧ w.cell? ⟨b, o + i * 5 + 1, none⟩ = some (.int .i64 l[i].1.1.2) ∧ w.cell? ⟨b, o + i * 5 + 2, none⟩ = some (.int .i64 l[i].1.2.1) ∧ w.cell? ⟨b, o + i * 5 + 3, none⟩ = some (.int .i64 l[i].1.2.2) ∧ w.cell? ⟨b, o + i * 5 + 4, none⟩ = some (.int .i64 l[i].2) := by
  obtain ⟨b, o, h1, h2⟩ := h.at_ hi
  exact ⟨b, o, h1, h2 0 _ rfl, h2 1 _ rfl, h2 2 _ rfl, h2 3 _ rfl, h2 4 _ rfl⟩

set_option maxRecDepth 100000 in
set_option maxHeartbeats 2000000 in
theorem moments_nil (w : World) (p : Int × Int) : Calls Try.prog 19 #[.pointer none, pV2 p] w fun e w' => e = .returned (.slice none 0 0) ∧ Ext w w' := by
  obtain ⟨p1, p2⟩ := p
  go_enter Try.func19, Try.ntmps19
  go_wp2_with fail
  refine (stamps_nil _).mono ?_
  rintro e w1 ⟨rfl, rfl⟩
  go_wp2
  go_loopw [5, 11] (fun o i wr => o = .slice none 0 0 ∧ i = .int .i64 0 ∧ Ext w wr) (fun _ _ _ => 0)
  case atStart => exact ⟨rfl, rfl, (Ext.refl _).alloc _⟩
  case round =>
    obtain ⟨rfl, rfl, hx⟩ := hrel
    go_wp2
    go_ret
    exact ⟨rfl, hx⟩
set_option maxRecDepth 100000 in
set_option maxHeartbeats 2000000 in
theorem moments_any (w : World) (g b : Nat) (L : List Cnt.S) (h : CM w g b L) (hl : L.length ≤ 1000000) (p : Int × Int) :
    Calls Try.prog 19 #[.pointer (some ⟨g, 0, none⟩), pV2 p] w fun e w' => ∃ v, e = .returned v ∧ OP 32 w.heap.size w' v (momsOf L p) ∧ Ext w w' := by
  obtain ⟨p1, p2⟩ := p
  have HX0 := Lib.hid ((Ext.refl w).alloc (.cells #[.int .i64 p1, .int .i64 p2] 30))
  have HB0 := Lib.hid (Blk.new w 30 #[.int .i64 p1, .int .i64 p2])
  have HS := Lib.hid (stamps_any _ g b L (h.ext HX0.out) hl)
  have hE := eqPl
  have hG := guardPl
  clear h
  go_enter Try.func19, Try.ntmps19
  go_wp2_with fail
  refine HS.out.mono ?_
  rintro e w1 ⟨v, rfl, ho, hx1⟩
  have HR := Lib.hid ho.re
  obtain ⟨A, c, rfl⟩ := ho.re.form
  have HX1 := Lib.hid (HX0.out.trans hx1)
  have HB1 := Lib.hid (HB0.out.ext hx1)
  clear ho hx1 HX0 HB0 HS
  go_wp2
  go_loopw [5, 11] (fun o i wr => ∃ k : Nat, k ≤ L.length ∧ i = .int .i64 k ∧ OP 32 w1.heap.size wr o (momsOf (L.take k) (p1, p2)) ∧ Ext w1 wr) (fun _ i _ => L.length - (intOf i).toNat)
  case atStart => exact ⟨0, Nat.zero_le _, rfl, OP.nilS _ _ _, Ext.refl _⟩
  case round =>
    obtain ⟨k, hk, rfl, ho, hext⟩ := hrel
    have HO := Lib.hid ho
    have HX := Lib.hid hext
    by_cases hlt : k < L.length
    · have g1 : (k : Int) < (L.length : Int) := by omega
      have g0 : 0 ≤ (k : Int) := by omega
      obtain ⟨bA, oA, rfl, c0, c1, c2, c3, c4⟩ := re5 (HR.out.ext hext) hlt
      have d0 : wr.cell? ⟨w.heap.size, 0, none⟩ = some (.int .i64 p1) := (HB1.out.ext hext).cell 0
      have d1 : wr.cell? ⟨w.heap.size, 1, none⟩ = some (.int .i64 p2) := (HB1.out.ext hext).cell 1
      have HST := Lib.hid (momsOf_s L (p1, p2) k hlt)
      have hml := momsOf_len (L.take k) (p1, p2)
      rw [List.length_take, Nat.min_eq_left hk] at hml
      generalize momsOf (L.take k) (p1, p2) = M at *
      generalize L[k] = x at *
      obtain ⟨⟨⟨x1, x2⟩, x3, x4⟩, x5⟩ := x
      dsimp only at *
      obtain ⟨AM, cM, rfl⟩ := ho.rp.form
      clear ho hext
      have hxn : Ext wr (wr.alloc (.cells #[.int .i64 x1, .int .i64 x2, .int .i64 x3, .int .i64 x4, .int .i64 x5] 34)) := (Ext.refl _).alloc _
      have d0 := hxn.cell d0
      have d1 := hxn.cell d1
      have HXN := Lib.hid (HX.out.trans hxn)
      have HON := Lib.hid (HO.out.ext hxn)
      clear hxn
      by_cases hq : (x1, x2) = (p1, p2)
      · have hd := pairB_t hq
        rw [if_pos hq] at HST
        have HLT := Lib.hid (RP.lit (wr.alloc (.cells #[.int .i64 x1, .int .i64 x2, .int .i64 x3, .int .i64 x4, .int .i64 x5] 34)) #[.int .i64 x3, .int .i64 x4] 32 1 [(x3, x4)] rfl (by omega) rfl)
        rw [show (wr.alloc (.cells #[.int .i64 x1, .int .i64 x2, .int .i64 x3, .int .i64 x4, .int .i64 x5] 34)).heap.size = wr.heap.size + 1 by simp] at HLT
        have hxl := (Ext.refl (wr.alloc (.cells #[.int .i64 x1, .int .i64 x2, .int .i64 x3, .int .i64 x4, .int .i64 x5] 34))).alloc (.cells #[.int .i64 x3, .int .i64 x4] 32)
        have HOL := Lib.hid (HON.out.ext hxl)
        have HXL := Lib.hid (HXN.out.trans hxl)
        clear hq hxl
        go_wp2_with (at_builtin; refine wpList_app rfl elemM _ _ _ rfl w1.heap.size _ M.length _ rfl HOL.out.own _ 1 _ rfl HLT.out.rd (one_pV _) (by omega) (by unfold maxLen; omega) HXL.out.size ?_; intro v6 w6 ha)
        refine ⟨⟨k + 1, by omega, by go_num, ?_, ?_⟩, by simp [intOf]; omega⟩
        · rw [HST.out]
          exact OP.app ha.own
        · exact ha.ext HXL.out rfl HOL.out.own
      · have hd := pairB_f hq
        rw [if_neg hq, List.append_nil] at HST
        clear hq
        go_wp2
        exact ⟨⟨k + 1, by omega, by go_num, by rw [HST.out]; exact HON.out, HXN.out⟩, by simp [intOf]; omega⟩
    · obtain rfl : k = L.length := by omega
      rw [List.take_length] at HO
      have g1 : ¬ (L.length : Int) < (L.length : Int) := by omega
      obtain ⟨AM, cM, rfl⟩ := HO.out.rp.form
      clear ho hext
      generalize hM : momsOf L (p1, p2) = M at *
      have HMM := Lib.hid hM
      clear hM
      go_wp2
      go_ret
      exact ⟨_, rfl, (by rw [HMM.out]; exact HO.out.low HX1.out.size), HX1.out.trans HX.out⟩

/-! ### the sum -/
theorem tot_s (L : List Cnt.S) (k : Nat) (h : k < L.length) : Cnt.tot (L.take (k + 1)) = Cnt.tot (L.take k) + L[k].2 := by
  unfold Cnt.tot
  rw [List.take_succ_eq_append_getElem h, List.map_append, List.sum_append]
  simp
theorem good_take {L : List Cnt.S} (h : Cnt.Good L) (k : Nat) : Cnt.Good (L.take k) :=
  ⟨h.asc.sublist (List.take_sublist _ _), fun x hx => h.num x (List.mem_of_mem_take hx)⟩
theorem tot_lim {L : List Cnt.S} (h : Cnt.Good L) (hl : L.length ≤ 1000000) (k : Nat) : 0 ≤ Cnt.tot (L.take k) ∧ Cnt.tot (L.take k) ≤ 1073741824000000 := by
  have h1 := Cnt.tot_bounds (good_take h k)
  rw [List.length_take] at h1
  have : min k L.length ≤ 1000000 := by omega
  omega
set_option maxRecDepth 100000 in
set_option maxHeartbeats 2000000 in
theorem total_nil (w : World) : Calls Try.prog 16 #[.pointer none] w fun e w' => e = .returned (.int .i64 0) ∧ w = w' := by
  go_enter Try.func16, Try.ntmps16
  go_wp2_with fail
  refine (stamps_nil _).mono ?_
  rintro e w1 ⟨rfl, rfl⟩
  go_wp2
  go_loopw [3, 9] (fun o i wr => o = .int .i64 0 ∧ i = .int .i64 0 ∧ w = wr) (fun _ _ _ => 0)
  case atStart => exact ⟨rfl, rfl, rfl⟩
  case round =>
    obtain ⟨rfl, rfl, rfl⟩ := hrel
    go_wp2
    go_ret
    exact ⟨rfl, rfl⟩
set_option maxRecDepth 100000 in
set_option maxHeartbeats 2000000 in
theorem total_any (w : World) (g b : Nat) (L : List Cnt.S) (h : CM w g b L) (hl : L.length ≤ 1000000) :
    Calls Try.prog 16 #[.pointer (some ⟨g, 0, none⟩)] w fun e w' => e = .returned (.int .i64 (Cnt.tot L)) ∧ Ext w w' := by
  have HS := Lib.hid (stamps_any w g b L h hl)
  have hgd := h.good
  clear h
  go_enter Try.func16, Try.ntmps16
  go_wp2_with fail
  refine HS.out.mono ?_
  rintro e w1 ⟨v, rfl, ho, hx1⟩
  have HR := Lib.hid ho.re
  obtain ⟨A, c, rfl⟩ := ho.re.form
  have HX1 := Lib.hid hx1
  clear ho hx1 HS
  go_wp2
  go_loopw [3, 9] (fun o i wr => ∃ k : Nat, k ≤ L.length ∧ i = .int .i64 k ∧ o = .int .i64 (Cnt.tot (L.take k)) ∧ Ext w1 wr) (fun _ i _ => L.length - (intOf i).toNat)
  case atStart => exact ⟨0, Nat.zero_le _, rfl, rfl, Ext.refl _⟩
  case round =>
    obtain ⟨k, hk, rfl, rfl, hext⟩ := hrel
    have HX := Lib.hid hext
    by_cases hlt : k < L.length
    · have g1 : (k : Int) < (L.length : Int) := by omega
      have g0 : 0 ≤ (k : Int) := by omega
      obtain ⟨bA, oA, rfl, c0, c1, c2, c3, c4⟩ := re5 (HR.out.ext hext) hlt
      have hst := tot_s L k hlt
      have hb1 := tot_lim hgd hl k
      have hb2 := hgd.num _ (List.getElem_mem hlt)
      have HST := Lib.hid hst
      clear hst
      generalize Cnt.tot (L.take k) = z at *
      generalize L[k] = x at *
      obtain ⟨⟨⟨x1, x2⟩, x3, x4⟩, x5⟩ := x
      dsimp only at *
      obtain ⟨hb3, hb4⟩ := hb1
      obtain ⟨hb5, hb6⟩ := hb2
      clear hext
      have HXN := Lib.hid (HX.out.trans ((Ext.refl wr).alloc (.cells #[.int .i64 x1, .int .i64 x2, .int .i64 x3, .int .i64 x4, .int .i64 x5] 34)))
      go_wp2
      exact ⟨⟨k + 1, by omega, by go_num, by rw [HST.out], HXN.out⟩, by simp [intOf]; omega⟩
    · obtain rfl : k = L.length := by omega
      rw [List.take_length]
      have g1 : ¬ (L.length : Int) < (L.length : Int) := by omega
      clear hext
      go_wp2
      go_ret
      exact ⟨rfl, HX1.out.trans HX.out⟩

/-! ### a clone -/
set_option maxRecDepth 100000 in
set_option maxHeartbeats 400000 in
theorem clone_nil (w : World) : Calls Try.prog 20 #[.pointer none] w fun e w' => ∃ g b, e = .returned (.pointer (some ⟨g, 0, none⟩)) ∧ w.heap.size ≤ g ∧ w.heap.size ≤ b ∧ CM w' g b [] ∧ Ext w w' := by
  go_enter Try.func20, Try.ntmps20
  go_wp2_with fail
  refine (made_nil _).mono ?_
  rintro e w1 ⟨rfl, rfl⟩
  go_wp2_with fail
  refine (new_any _).mono ?_
  rintro e w1 ⟨g, b, rfl, h1, h2, hc, hx⟩
  go_wp2
  go_ret
  exact ⟨g, b, rfl, h1, h2, hc, hx⟩
set_option maxRecDepth 100000 in
set_option maxHeartbeats 400000 in
theorem clone_any (w : World) (g b : Nat) (L : List Cnt.S) (h : CM w g b L) :
    Calls Try.prog 20 #[.pointer (some ⟨g, 0, none⟩)] w fun e w' => ∃ g' b', e = .returned (.pointer (some ⟨g', 0, none⟩)) ∧ w.heap.size ≤ g' ∧ w.heap.size ≤ b' ∧ CM w' g' b' L ∧ Ext w w' := by
  have HM := Lib.hid (made_any w g b L h)
  have c0 : w.cell? ⟨g, 0, none⟩ = some (.map (some b)) := h.box.cell 0
  obtain ⟨l, hm, hmem⟩ := h.map
  obtain ⟨es, clock, hb, h1, h2, h3, h4⟩ := hm
  have hgd := h.good
  have HCL := Lib.hid (AnyW.maps_Clone Try.cloneM b es clock w hb)
  clear h hb
  go_enter Try.func20, Try.ntmps20
  go_wp2_with fail
  refine HM.out.mono ?_
  rintro e w1 ⟨rfl, rfl⟩
  go_wp2_with fail
  refine HCL.out.mono ?_
  rintro e w1 ⟨rfl, rfl⟩
  have hmn : MapE kV vI (w.alloc (.map es clock)) w.heap.size l := ⟨es, clock, heap_alloc_new w _, h1, h2, h3, h4⟩
  have hbn := Blk.new (w.alloc (.map es clock)) 49 #[.map (some w.heap.size)]
  rw [show (w.alloc (.map es clock)).heap.size = w.heap.size + 1 by simp] at hbn
  have HMN := Lib.hid hmn
  have HBN := Lib.hid hbn
  have HH := Lib.hid hmem
  clear hmn hbn h1 h2 h3 h4 hmem
  go_wp2
  go_ret
  refine ⟨_, _, rfl, ?_, Nat.le_refl _, ⟨HBN.out, ?_, ⟨l, HMN.out.ext ((Ext.refl _).alloc _), HH.out⟩, hgd⟩, ((Ext.refl _).alloc _).alloc _⟩
  · simp
  · simp
end Go.Proofs.Ytngdlahgihbmhaa
