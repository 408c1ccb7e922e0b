/-
  RecSort, RecRef, RecPut, RecEnc, packed: what the claim needs of them.
-/
import Derived.Test.YtpmpjjhchkoboaaGreatDoorPa29
import Derived.Test.YtpmpjjhchkoboaaGreatDoorPa12
import Derived.Test.YtpmpjjhchkoboaaGreatDoorPa10
import Derived.Test.YtpmpjjhchkoboaaGreatDoorPa01
import Derived.Test.YtpmpjjhchkoboaaGreatDoorPa02
import Derived.Test.YtpmpjjhchkoboaaGreatDoorPa28
import Derived.Test.YtpmpjjhchkoboaaGreatDoorPa30
import Derived.Test.YtpmpjjhchkoboaaGreatDoorPa09
import Derived.Test.YtpmpjjhchkoboaaGreatDoorPa03
import Derived.Test.YtpmpjjhchkoboaaGreatDoorPa19
namespace Go.Proofs.YtpmpjjhchkoboaaGreatDoor
open Go.RowKit Go.Ox Go.Shelf
attribute [local irreducible] OP RP
set_option linter.unusedVariables false
theorem ltM (x y : Mom.M) : Go.Proofs.ltOf Mom.cmp x y = true ↔ Mom.lt x y := by
  unfold Go.Proofs.ltOf
  simp only [decide_eq_true_eq]
  exact Mom.cmp_lt
theorem ltM_f (x y : Mom.M) : Go.Proofs.ltOf Mom.cmp x y = false ↔ ¬ Mom.lt x y := by
  rw [← ltM, Bool.not_eq_true]
theorem swoM : Go.Sort.SWO (Go.Proofs.ltOf Mom.cmp) where
  irrefl x := by rw [ltM_f]; exact Mom.lt_irrefl x
  trans x y z h1 h2 := by rw [ltM] at *; exact Mom.lt_trans h1 h2
  ntrans x y z h1 h2 := by
    rw [ltM_f] at *
    intro h3
    rcases Mom.lt_conn x y with h | h | h
    · exact h1 h
    · subst h; exact h2 h3
    · rcases Mom.lt_conn y z with k | k | k
      · exact h2 k
      · subst k; exact h1 h3
      · exact Mom.lt_irrefl _ (Mom.lt_trans h3 (Mom.lt_trans k h))
theorem cmpLaysM (blk off size : Nat) (w : World) : Go.Proofs.CmpLays Tryz.prog 121 #[] encM 2 Mom.cmp blk off size w :=
  fun _ _ _ _ x y => compare_grown x y _
unseal OP in
theorem pV_enc (l : List Mom.M) : pV l = l.flatMap encM := rfl
theorem sortM_any (v : Value) (l : List Mom.M) (base : Nat) (w : World) (ho : OP 55 base w v l) (hl : l.length ≤ 1000000000) :
    Calls Tryz.prog 120 #[v, .func (.func 121) #[] #[]] w fun e w' =>
      e = .returned (.tuple #[]) ∧ ∃ s : List Mom.M, s.Perm l ∧ s.Pairwise (fun a b => ¬ Mom.lt b a) ∧ OP 55 base w' v s ∧ w.grownBy w' v.ownBlock := by
  rcases ho.own.2 with ⟨rfl, h0⟩ | ⟨g, cap, cur, rfl, hb, _⟩
  · obtain rfl := List.eq_nil_of_length_eq_zero h0
    refine (AnyF.slices_SortFunc_none Tryz.sortM none 0 _ w).mono ?_
    rintro e w' ⟨h1, rfl⟩
    exact ⟨h1, [], List.Perm.refl _, List.Pairwise.nil, OP.nilS _ _ _, World.grownBy.refl _ _⟩
  · have eg : ∀ args w, (callFunc 121 args).run Tryz.prog w = .ok (.enter 121 args) w := enters_of Tryz.func121 (by kernel_rfl) rfl
    have hH := holdsK_of_own (enc := encM) (fun _ => rfl) (by omega) ho.own
    have hcon := AnyQ.slices_SortFunc Tryz.sortM 2 Tryz.isAgg55 Tryz.sizeOf55 encM (fun _ => rfl) (fun x u hu => by simp at hu; rcases hu with rfl | rfl <;> rfl) Mom.cmp swoM 121 #[] g 0 cap l.toArray w eg
      (cmpLaysM g 0 _ w) hH (ho.own.lt g rfl).2 (by simp; omega)
    refine hcon.mono ?_
    rintro e w' ⟨h1, d', n, os, hp, hs, hw⟩
    have hsz : d'.size = l.length := by have := hp.1; simpa using this
    obtain ⟨q1, q2⟩ := own_sorted (enc := encM) (fun _ => rfl) (by omega) ho.own hsz hw
    refine ⟨h1, d'.toList, by simpa using perm_of hp, (sorted_of hs (by simpa using hsz)).imp (fun {a b} h => (ltM_f _ _).1 h), ?_, q2⟩
    unfold OP
    rw [pV_enc, show d'.toList.length = l.length by simpa using hsz]
    exact q1
set_option maxRecDepth 100000 in
set_option maxHeartbeats 400000 in
theorem sorted_any (v : Value) (l : List Rec.R) (w : World) (hv : RP w v l) (hl : l.length ≤ 1000000) :
    Calls Tryz.prog 75 #[v] w fun e w' => ∃ v', e = .returned v' ∧ OP 55 w.heap.size w' v' (Rec.srt l) ∧ Ext w w' := by
  have HV := Lib.hid hv
  obtain ⟨A, c, rfl⟩ := hv.form
  clear hv
  go_enter Tryz.func75, Tryz.ntmps75
  go_wp2_with fail
  refine (cloneM_any _ l w HV.out (by omega)).mono ?_
  rintro e w1 ⟨v1, rfl, ho1, he1⟩
  have HO1 := Lib.hid ho1
  obtain ⟨A1, c1, rfl⟩ := ho1.rp.form
  have HX1 := Lib.hid he1
  clear ho1 he1
  go_wp2_with fail
  refine (sortM_any _ l w.heap.size w1 HO1.out (by omega)).mono ?_
  rintro e w2 ⟨rfl, s, hp, hs, ho2, hg2⟩
  have hx2 : Ext w w2 := HX1.out.grown hg2 fun k hk => (HO1.out.own.lt k hk).1
  rw [Rec.srt_is (l := l) hs hp] at ho2
  go_wp2
  go_ret
  exact ⟨_, rfl, ho2, hx2⟩
set_option maxRecDepth 100000 in
set_option maxHeartbeats 400000 in
theorem sort_ok (v : Value) (l : List Rec.R) (w : World) (hv : RP w v l) (hl : l.length ≤ 1000000) (hm : Rec.may l = 0) :
    Calls Tryz.prog 72 #[v] w fun e w' => ∃ v', e = .returned (.tuple #[v', .int .i64 0]) ∧ OP 55 w.heap.size w' v' (Rec.srt l) ∧ Ext w w' := by
  have HM := Lib.hid (may_any v l w hv hl)
  have HV := Lib.hid hv
  rw [hm] at HM
  obtain ⟨A, c, rfl⟩ := hv.form
  clear hv hm
  go_enter Tryz.func72, Tryz.ntmps72
  go_wp2_with fail
  refine HM.out.mono ?_
  rintro e w1 ⟨rfl, he1⟩
  have HX1 := Lib.hid he1
  clear he1
  go_wp2_with fail
  refine (sorted_any _ l w1 (HV.out.ext HX1.out) hl).mono ?_
  rintro e w2 ⟨v2, rfl, ho2, he2⟩
  go_wp2
  go_ret2
  exact ⟨_, rfl, ho2.low HX1.out.size, HX1.out.trans he2⟩
end Go.Proofs.YtpmpjjhchkoboaaGreatDoor
namespace Go.Proofs.YtpmpjjhchkoboaaGreatDoor
open Go.RowKit Go.Ox Go.Shelf
attribute [local irreducible] OP RP
set_option linter.unusedVariables false
set_option linter.unusedSimpArgs false
unseal RP in
theorem RP.lo {t e : TypeId} {z : Value} {bytes c : Nat} {P : Program} {A : Option Addr} {l : List (Int × Int)} (el : Elem P t e z 2 bytes) {w : World} (h : RP w (.slice A l.length c) l) {k : Nat} (hk : k ≤ l.length) :
    ∃ A', (∀ w', (Instr.slice t (.slice A l.length c) (some (.int .i64 (k : Int))) none none).run P w' = .ok (.slice A' (l.length - k) (c - k)) w') ∧ RP w (.slice A' (l.length - k) (c - k)) (l.drop k) := by
  obtain ⟨A', h1, h2⟩ := Rd.lo el h hk (k : Int) rfl
  rw [pV_drop] at h2
  refine ⟨A', h1, ?_⟩
  unfold RP
  rw [List.length_drop]
  exact h2
unseal RP in
theorem RP.hi {t e : TypeId} {z : Value} {bytes c : Nat} {P : Program} {A : Option Addr} {l : List (Int × Int)} (el : Elem P t e z 2 bytes) {w : World} (h : RP w (.slice A l.length c) l) {k : Nat} (hk : k ≤ l.length) :
    (∀ w', (Instr.slice t (.slice A l.length c) none (some (.int .i64 (k : Int))) none).run P w' = .ok (.slice A k c) w') ∧ RP w (.slice A k c) (l.take k) := by
  obtain ⟨A0, c0, he, h⟩ := h
  injection he with h1 h2 h3
  subst h1; subst h3
  obtain ⟨i, hi, hz, hs, hb⟩ := el.info
  have hnc := h.nc
  refine ⟨fun w' => ?_, ?_⟩
  · have : ((k : Int) ≤ (c : Int)) := by omega
    simp [Instr.slice, run_underlying el.under, Instr.sliceBounds, run_sliceBound w' .i64 (k : Int) c .sliceAcap (by omega) this, sizeOf, typeInfo, hi]
    cases A <;> simp [Addr.add]
  · refine ⟨A, c, ?_, ?_⟩
    · rw [List.length_take, Nat.min_eq_left hk]
    · rw [List.length_take, Nat.min_eq_left hk, ← pV_take]
      exact h.take hk
end Go.Proofs.YtpmpjjhchkoboaaGreatDoor
namespace Go.Proofs.YtpmpjjhchkoboaaGreatDoor
open Go.RowKit Go.Ox
attribute [local irreducible] OB RB
set_option maxRecDepth 100000 in
set_option maxHeartbeats 1000000 in
theorem mput_any (x y : Nat) (w : World) (hx : x < 1048576) (hy : y < 1048576) : Calls Tryz.prog 73 #[mV ((x : Int), (y : Int))] w fun e w' =>
    ∃ v, e = .returned (.tuple #[v, .int .i64 0]) ∧ OB 5 w.heap.size w' v (Num.put x ++ Num.put y) ∧ Ext w w' := by
  have HC := Lib.hid (fun w => check_any ((x : Int), (y : Int)) w)
  have hm : Rec.ok ((x : Int), (y : Int)) = true := by unfold Rec.ok; simp; omega
  rw [hm, if_pos rfl] at HC
  have B0 := Blk.new w 55 #[.int .i64 (x : Int), .int .i64 (y : Int)]
  have c0 : (w.alloc (.cells #[.int .i64 (x : Int), .int .i64 (y : Int)] 55)).cell? ⟨w.heap.size, 0, none⟩ = some (.int .i64 (x : Int)) := B0.cell 0
  have c1 : (w.alloc (.cells #[.int .i64 (x : Int), .int .i64 (y : Int)] 55)).cell? ⟨w.heap.size, 1, none⟩ = some (.int .i64 (y : Int)) := B0.cell 1
  have HB0 := Lib.hid B0
  clear B0 hm
  have hf : ((([Num.put x, Num.put y] : List (List UInt8)).flatten).length : Nat) ≤ 1099511627776 := by
    have h1 := Num.put_le x
    have h2 := Num.put_le y
    have h3 := (Num.width_le 8 x (by omega)).2 (by omega)
    have h4 := (Num.width_le 8 y (by omega)).2 (by omega)
    simp only [List.flatten_cons, List.flatten_nil, List.append_nil, List.length_append]; omega
  have HF := Lib.hid hf
  clear hf
  go_enter Tryz.func73, Tryz.ntmps73
  go_wp2_with fail
  refine (HC.out _).mono ?_
  rintro e w1 ⟨rfl, he1⟩
  have d0 := (HB0.out.ext he1).cell 0
  have d1 := (HB0.out.ext he1).cell 1
  have HB1 := Lib.hid (HB0.out.ext he1)
  have HX1 := Lib.hid (((Ext.refl w).alloc (.cells #[.int .i64 (x : Int), .int .i64 (y : Int)] 55)).trans he1)
  clear he1 c0 c1
  have d0 : w1.cell? ⟨w.heap.size, 0, none⟩ = some (.int .i64 (x : Int)) := d0
  go_wp2_with fail
  refine (put_any x _ (by omega)).mono ?_
  rintro e w2 ⟨v2, rfl, ho2, he2⟩
  have d1 : w2.cell? ⟨w.heap.size, 1, none⟩ = some (.int .i64 (y : Int)) := (HB1.out.ext he2).cell 1
  have HO2 := Lib.hid ho2
  have HX2 := Lib.hid he2
  obtain ⟨A2, k2, rfl⟩ := ho2.form
  clear ho2 he2 d0
  go_wp2_with fail
  refine (put_any y _ (by omega)).mono ?_
  rintro e w3 ⟨v3, rfl, ho3, he3⟩
  have HO3 := Lib.hid ho3
  have HX3 := Lib.hid he3
  obtain ⟨A3, k3, rfl⟩ := ho3.form
  clear ho3 he3 d1
  go_wp2_with fail
  refine (concat_any _ [Num.put x, Num.put y] _ (RBs.lit2 _ (HO2.out.ext HX3.out).rb HO3.out.rb) HF.out).mono ?_
  rintro e w4 ⟨v4, rfl, ho4, he4⟩
  obtain ⟨A4, k4, rfl⟩ := ho4.form
  go_wp2_with fail
  go_ret2
  have hx : Ext w w3 := (HX1.out.trans HX2.out).trans HX3.out
  refine ⟨_, rfl, ?_, (hx.alloc _).trans he4⟩
  have h9 := ho4.low ((hx.alloc _).size)
  rw [show [Num.put x, Num.put y].flatten = Num.put x ++ Num.put y by simp] at h9
  simpa using h9
end Go.Proofs.YtpmpjjhchkoboaaGreatDoor
namespace Go.Proofs.YtpmpjjhchkoboaaGreatDoor
open Go.RowKit Go.Ox
attribute [local irreducible] OB RB
end Go.Proofs.YtpmpjjhchkoboaaGreatDoor
namespace Go.Proofs.YtpmpjjhchkoboaaGreatDoor
open Go.RowKit Go.Ox Go.Shelf
attribute [local irreducible] OP RP OB RB
set_option linter.unusedVariables false
set_option linter.unusedSimpArgs false
theorem mput_rec (r : Rec.R) (w : World) (h : Rec.ok r = true) : Calls Tryz.prog 73 #[mV r] w fun e w' => ∃ u, e = .returned (.tuple #[u, .int .i64 0]) ∧ OB 5 w.heap.size w' u (Rec.recL r) ∧ Ext w w' := by
  have hb := Rec.ok_bd h
  unfold Rec.recL
  obtain ⟨x, y⟩ := r
  obtain ⟨x, rfl⟩ : ∃ n : Nat, x = n := ⟨x.toNat, by simp only at hb; omega⟩
  obtain ⟨y, rfl⟩ : ∃ n : Nat, y = n := ⟨y.toNat, by simp only at hb; omega⟩
  simp only at hb
  refine (mput_any x y w (by omega) (by omega)).mono ?_
  rintro e w' ⟨v, rfl, ho, he⟩
  exact ⟨v, rfl, by simpa using ho, he⟩
set_option maxRecDepth 100000 in
set_option maxHeartbeats 2000000 in
theorem enc_ok (v : Value) (l : List Rec.R) (w : World) (hv : RP w v l) (hl : l.length ≤ 1000000) (hm : Rec.may l = 0) :
    Calls Tryz.prog 24 #[v] w fun e w' => ∃ u, e = .returned (.tuple #[u, .int .i64 0]) ∧ OB 5 w.heap.size w' u (Rec.encL l) ∧ Ext w w' := by
  have HS := Lib.hid (sort_ok v l w hv hl hm)
  obtain ⟨hok, hlm⟩ := Rec.may_ok hm
  have hsl := Rec.srt_len l
  have HOK := Lib.hid (Rec.srt_ok hok)
  have hp8 := Rec.put_le8 (n := l.length) (by omega)
  unfold Rec.encL
  rw [← hsl] at hp8 ⊢
  generalize Rec.srt l = S at *
  have HL := Lib.hid (show S.length ≤ 4096 by omega)
  have HPL := Lib.hid (show (Num.put S.length).length ≤ 4 from hp8.2)
  obtain ⟨A, c, rfl⟩ := hv.form
  have HP := Lib.hid (fun w => put_any S.length w (by have := HL.out; omega))
  clear hv hm hok hlm hl hp8 hsl
  generalize Num.put S.length = p at *
  go_enter Tryz.func24, Tryz.ntmps24
  go_wp2_with fail
  refine HS.out.mono ?_
  rintro e w1 ⟨v1, rfl, ho1, he1⟩
  have HO1 := Lib.hid ho1.rp
  have HX1 := Lib.hid he1
  obtain ⟨A1, c1, rfl⟩ := ho1.rp.form
  clear ho1 he1 HS
  go_wp2_with fail
  refine (HP.out _).mono ?_
  rintro e w2 ⟨v2, rfl, ho2, he2⟩
  have HO2 := Lib.hid ho2
  have HX2 := Lib.hid he2
  clear ho2 he2 HP
  go_wp2
  go_loopw [6, 28] (fun o iv wr => ∃ k : Nat, k ≤ S.length ∧ iv = .int .i64 (k : Int) ∧ OB 5 w1.heap.size wr o (p ++ (S.take k).flatMap Rec.recL) ∧ Ext w1 wr) (fun _ iv _ => S.length - (intOf iv).toNat)
  case atStart => exact ⟨0, Nat.zero_le _, rfl, by simpa using HO2.out, HX2.out⟩
  case round =>
    obtain ⟨k, hk, rfl, ho, hext⟩ := hrel
    have HE := Lib.hid hext
    have HO := Lib.hid ho
    obtain ⟨AO, cO, rfl⟩ := ho.form
    have HOUT := Lib.hid (show (p ++ (S.take k).flatMap Rec.recL).length ≤ 100000 by
      have h1 := Rec.flat_len (S.take k) fun x hx => HOK.out x (List.mem_of_mem_take hx)
      have h2 := HPL.out
      have h3 := HL.out
      rw [List.length_take] at h1
      rw [List.length_append]; omega)
    clear ho
    by_cases hlt : k < S.length
    · have g1 : (k : Int) < (S.length : Int) := by omega
      have g0 : 0 ≤ (k : Int) := by omega
      have HLT := Lib.hid hlt
      obtain ⟨bA, oA, rfl, c0, c1⟩ := (HO1.out.ext hext).at_ (k := k) hlt
      have HSN := Lib.hid (Rec.flatMap_snoc Rec.recL S hlt)
      have HRL := Lib.hid (Rec.recL_len (HOK.out _ (List.getElem_mem hlt)))
      have HM := Lib.hid (fun w => mput_rec S[k] w (HOK.out _ (List.getElem_mem hlt)))
      generalize hq : p ++ (S.take k).flatMap Rec.recL = q at *
      have HQ := Lib.hid hq
      generalize S[k] = x at *
      generalize Rec.recL x = xl at *
      obtain ⟨x1, x2⟩ := x
      dsimp only at *
      have hkb : k ≤ 1000000 := by have := HL.out; omega
      clear hext hk hlt hq
      go_upto_region 8 with fail
      have HG3 := Lib.hid ((Ext.refl wr).alloc (.cells #[.int .i64 x1, .int .i64 x2] 55))
      go_wp2_with fail
      refine (HM.out _).mono ?_
      rintro e w4 ⟨v4, rfl, ho4, he4⟩
      have HO4 := Lib.hid ho4.rb
      have HG4 := Lib.hid (HG3.out.trans he4)
      obtain ⟨A4, c4, rfl⟩ := ho4.form
      clear ho4 he4
      go_wp2_with (refine wpList_appBB rfl elemB w1 _ (.tmp 37) (.tmp 38) rfl _ q rfl (HO.out.ext HG4.out) (HE.out.trans HG4.out) _ xl rfl HO4.out (by have := HOUT.out; have := HRL.out; omega) ?_; intro v9 w9 ho9 he9 hg9; have HO9 := Lib.hid ho9; have HE9 := Lib.hid he9; clear ho9 he9 hg9)
      exact ⟨⟨k + 1, HLT.out, by go_num, by rw [HSN.out, ← List.append_assoc, HQ.out]; exact HO9.out, HE9.out⟩, by have := HLT.out; simp [intOf]; omega⟩
    · obtain rfl : k = S.length := by omega
      have g1 : ¬ (S.length : Int) < (S.length : Int) := by omega
      rw [List.take_length] at HO HOUT ⊢
      generalize hq : p ++ S.flatMap Rec.recL = q at *
      have HQ := Lib.hid hq
      clear hext hq
      go_wp2
      go_ret2
      rw [HQ.out]
      exact ⟨_, rfl, HO.out.low HX1.out.size, HX1.out.trans HE.out⟩
end Go.Proofs.YtpmpjjhchkoboaaGreatDoor
