/-
  Entries at a moment; entries whose moments a front covers.
-/
import Derived.Test.YtbokblklldphgaaEntDel
import Derived.Test.YtbokblklldphgaaMomCov
namespace Go.Ox.Ent
/-- the records at a moment -/
def atL (l : List E) (m : Int × Int) : List (Int × Int) := (l.filter fun x => decide (x.1 = m)).map (·.2)
theorem atL_s (l : List E) (m : Int × Int) {k : Nat} (h : k < l.length) : atL (l.take (k + 1)) m = atL (l.take k) m ++ (if l[k].1 = m then [l[k].2] else []) := by
  unfold atL
  rw [List.take_succ_eq_append_getElem h, List.filter_append, List.map_append]
  congr 1
  by_cases q : l[k].1 = m <;> simp [q]
theorem atL_len (l : List E) (m : Int × Int) (k : Nat) : (atL (l.take k) m).length ≤ k := by
  unfold atL
  rw [List.length_map]
  have := List.length_filter_le (fun x : E => decide (x.1 = m)) (l.take k)
  rw [List.length_take] at this
  omega
/-- the entries whose moments are covered -/
def bhd (l : List E) (f : List (Int × Int)) : List E := l.filter fun x => Mom.covers f x.1
theorem bhd_s (l : List E) (f : List (Int × Int)) {k : Nat} (h : k < l.length) : bhd (l.take (k + 1)) f = bhd (l.take k) f ++ (if Mom.covers f l[k].1 = true then [l[k]] else []) := by
  unfold bhd
  rw [List.take_succ_eq_append_getElem h, List.filter_append]
  congr 1
  by_cases q : Mom.covers f l[k].1 = true <;> simp [q]
theorem bhd_len (l : List E) (f : List (Int × Int)) (k : Nat) : (bhd (l.take k) f).length ≤ k := by
  unfold bhd
  have := List.length_filter_le (fun x : E => Mom.covers f x.1) (l.take k)
  rw [List.length_take] at this
  omega
end Go.Ox.Ent
namespace Go.Proofs.Ytbokblklldphgaa
open Go.RowKit Go.Ox Go.Shelf
attribute [local irreducible] OP RP
set_option linter.unusedVariables false
set_option linter.unusedSimpArgs false

/-! ### behind a front -/
def delB (f : List (Int × Int)) (s : Unit) (x : Ent.E) : Bool × Unit := (!Mom.covers f x.1, s)
theorem keepB (f : List (Int × Int)) (l : List Ent.E) : keepS (delB f) () l = Ent.bhd l f := by
  have h : keepS (delB f) () l = l.filter fun x => !(!Mom.covers f x.1) := keepS_pure (fun x : Ent.E => !Mom.covers f x.1) l
  rw [h]
  unfold Ent.bhd
  simp
set_option maxRecDepth 100000 in
set_option maxHeartbeats 2000000 in
theorem rbehind_own (v u : Value) (l : List Ent.E) (f : List (Int × Int)) (w : World) (hv : RE w v l) (hu : RP w u f) (hl : l.length ≤ 1000000) (hf : f.length ≤ 1000000) :
    Calls Try.prog 51 #[v, u] w fun e w' => ∃ x, e = .returned x ∧ OE 33 w.heap.size w' x (Ent.bhd l f) ∧ Ext w w' := by
  obtain ⟨A, c, rfl⟩ := hv.form
  obtain ⟨B, d, rfl⟩ := hu.form
  have HV := Lib.hid hv
  have HU := Lib.hid hu
  have HC := Lib.hid (fun x w h => Mo.rcovers_any (.slice B f.length d) f x w h (by omega))
  have HL := Lib.hid hl
  clear hv hu
  go_enter Try.func51, Try.ntmps51
  go_wp2
  go_loopw [5, 6] (fun o iv wr => ∃ k : Nat, k ≤ l.length ∧ iv = .int .i64 k ∧ OE 33 w.heap.size wr o (Ent.bhd (l.take k) f) ∧ Ext w wr) (fun _ iv _ => l.length - (intOf iv).toNat)
  case atStart => exact ⟨0, Nat.zero_le _, rfl, OE.nilS _ _ _, Ext.refl _⟩
  case round =>
    obtain ⟨k, hk, rfl, ho, hext⟩ := hrel
    have HE := Lib.hid hext
    have HO := Lib.hid ho
    obtain ⟨AO, cO, rfl⟩ := ho.re.form
    have hle := Ent.bhd_len l f k
    have HOUT := Lib.hid (show (Ent.bhd (l.take k) f).length ≤ 1000000 by omega)
    clear ho hle
    by_cases hlt : k < l.length
    · have g1 : (k : Int) < (l.length : Int) := by omega
      have g1n : k < l.length := hlt
      have g0 : 0 ≤ (k : Int) := by omega
      have hkb : k ≤ 1000000 := by omega
      have HLT := Lib.hid hlt
      obtain ⟨bA, oA, rfl, c0, c1, c2, c3⟩ := re4 (HV.out.ext hext) hlt
      have HS := Lib.hid (Ent.bhd_s l f hlt)
      have HUr := Lib.hid (HU.out.ext hext)
      have HCX := Lib.hid (fun w h => HC.out l[k].1 w h)
      generalize Ent.bhd (l.take k) f = out at *
      generalize l[k] = x at *
      generalize Mom.covers f x.1 = cv at *
      obtain ⟨⟨x1, x2⟩, x3, x4⟩ := x
      dsimp only at *
      clear hext hk hlt
      cases cv with
      | true =>
        rw [if_pos rfl] at HS
        go_wp2_with fail
        refine (HCX.out _ HUr.out).mono ?_
        rintro e w5 ⟨rfl, hx5⟩
        have c0 := hx5.cell c0
        have c1 := hx5.cell c1
        have c2 := hx5.cell c2
        have c3 := hx5.cell c3
        have HX5 := Lib.hid (HE.out.trans hx5)
        have HO5 := Lib.hid (HO.out.ext hx5)
        have hxl : Ext w5 (w5.alloc (.cells #[.int .i64 x1, .int .i64 x2, .int .i64 x3, .int .i64 x4] 33)) := (Ext.refl _).alloc _
        have HLT2 := Lib.hid (RE.lit w5 #[.int .i64 x1, .int .i64 x2, .int .i64 x3, .int .i64 x4] 33 1 [(((x1, x2), x3, x4) : Ent.E)] rfl (by omega) rfl)
        have HOL := Lib.hid (HO5.out.ext hxl)
        have HXL := Lib.hid (HX5.out.trans hxl)
        clear hxl hx5
        go_wp2_with (at_builtin; refine wpList_appE rfl elemE _ _ _ rfl w.heap.size _ _ out [(((x1, x2), x3, x4) : Ent.E)] rfl HOL.out rfl HLT2.out (by have := HOUT.out; simp; omega) (by have := HOUT.out; unfold maxLen; simp; omega) HXL.out.size ?_; intro v7 w7 ho7 hg7 hat7)
        exact ⟨⟨k + 1, HLT.out, by go_num, by rw [HS.out]; exact ho7, HXL.out.grown hat7 fun g hg => (HOL.out.own.lt g hg).1⟩, by have := HLT.out; simp [intOf]; omega⟩
      | false =>
        rw [if_neg (by simp), List.append_nil] at HS
        go_wp2_with fail
        refine (HCX.out _ HUr.out).mono ?_
        rintro e w5 ⟨rfl, hx5⟩
        have HX5 := Lib.hid (HE.out.trans hx5)
        have HO5 := Lib.hid (HO.out.ext hx5)
        clear hx5
        go_wp2
        exact ⟨⟨k + 1, HLT.out, by go_num, by rw [HS.out]; exact HO5.out, HX5.out⟩, by have := HLT.out; simp [intOf]; omega⟩
    · have hk2 : k = l.length := by omega
      subst hk2
      have g1 : ¬ (l.length : Int) < (l.length : Int) := by omega
      rw [List.take_length] at HO HOUT ⊢
      generalize hq : Ent.bhd l f = out at *
      have HQ := Lib.hid hq
      clear hext hq
      go_wp2
      go_ret
      rw [HQ.out]
      exact ⟨_, rfl, HO.out, HE.out⟩
theorem rbehind_any (v u : Value) (l : List Ent.E) (f : List (Int × Int)) (w : World) (hv : RE w v l) (hu : RP w u f) (hl : l.length ≤ 1000000) (hf : f.length ≤ 1000000) :
    Calls Try.prog 51 #[v, u] w fun e w' => ∃ x, e = .returned x ∧ RE w' x (Ent.bhd l f) ∧ Ext w w' :=
  (rbehind_own v u l f w hv hu hl hf).mono fun _ _ ⟨x, h1, h2, h3⟩ => ⟨x, h1, h2.re, h3⟩
end Go.Proofs.Ytbokblklldphgaa
