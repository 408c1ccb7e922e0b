/-
  entry.Pack: entries as packs.
-/
import Derived.Test.YtacpomonidmjaaaEntPk
import Derived.Test.YtacpomonidmjaaaCopy
namespace Go.Proofs.Ytacpomonidmjaaa
open Go.RowKit Go.Ox Go.Shelf
set_option linter.unusedVariables false
set_option linter.unusedSimpArgs false

theorem elemBB : Elem Try.prog 43 38 (.slice none 0 0) 1 24 := Elem.mk' Try.underlying43 (by kernel_rfl) rfl (by omega)
/-- what the loop of Pack holds: the packs, and the one that is being filled -/
structure PkI (base : Nat) (w : World) (o la : Value) (out : List (List UInt8)) (last : List UInt8) (us : List Value) : Prop where
  rows : OV 38 5 base w o out us
  last : OB 5 base w la last
  ap1 : ∀ g, la.ownBlock = some g → o.ownBlock ≠ some g
  ap2 : ∀ (j : Nat) (y : Value), us[j]? = some y → ∀ g, la.ownBlock = some g → y.ownBlock ≠ some g
  bw : base ≤ w.heap.size
section
variable {base : Nat} {w w' : World} {o la : Value} {out : List (List UInt8)} {last b : List UInt8} {us : List Value}
theorem PkI.ext (h : PkI base w o la out last us) (he : Ext w w') : PkI base w' o la out last us := ⟨h.rows.ext he, h.last.ext he, h.ap1, h.ap2, Nat.le_trans h.bw he.size⟩
theorem PkI.nil (base : Nat) (w : World) (hb : base ≤ w.heap.size) : PkI base w (.slice none 0 0) (.slice none 0 0) [] [] [] :=
  ⟨OV.nil _ _ _ _, OB.nilO _ _ _, fun _ h => (by cases h), fun _ _ h => (by simp at h), hb⟩
/-- the pack that was filled is laid behind the others -/
theorem PkI.flush {o' : Value} (h : PkI base w o la out last us) {cs : Array Value} {T' : TypeId} (ha : Appended (w.alloc (.cells cs T')) w' base 38 1 o o' out.length 1 us [la]) : PkI base w' o' (.slice none 0 0) (out ++ [last]) [] (us ++ [la]) :=
  ⟨OV.push h.rows (OB.oe h.last) h.ap1 h.ap2 ha, OB.nilO _ _ _, fun _ h => (by cases h), fun _ _ _ _ h => (by cases h), by have h1 := ha.grown.size; have h2 := h.bw; simp at h1; omega⟩
/-- bytes more -/
theorem PkI.more {la' : Value} (h : PkI base w o la out last us) (ha : Appended w w' base 5 1 la la' last.length b.length (last.map byteV) (b.map byteV)) : PkI base w' o la' out (last ++ b) us := by
  have hsz := ha.grown.size
  refine ⟨h.rows.grownR ha.grown (fun g h1 h2 => h.ap1 g h2 h1) (fun j y hy g h1 h2 => h.ap2 j y hy g h2 h1), OB.app ha.own, fun g hg => ?_, fun j y hy g hg => ?_, Nat.le_trans h.bw hsz⟩
  · rcases ha.at_ with e | e
    · exact h.ap1 g (by rw [← e]; exact hg)
    · rw [e] at hg
      injection hg with hg
      intro q
      have := (h.rows.own.lt g q).2
      omega
  · rcases ha.at_ with e | e
    · exact h.ap2 j y hy g (by rw [← e]; exact hg)
    · rw [e] at hg
      injection hg with hg
      intro q
      have := (h.rows.row_lt hy q).2
      omega
end
attribute [local irreducible] OB RB

set_option maxRecDepth 100000 in
set_option maxHeartbeats 1000000 in
theorem pack_err (v : Value) (l : List Ent.E) (w : World) (hv : RE w v l) (hl : l.length ≤ 1000000) (hm : Ent.may l ≠ 0) :
    Calls Try.prog 21 #[v] w fun e w' => e = .returned (.tuple #[.slice none 0 0, .int .i64 (Ent.may l)]) ∧ Ext w w' := by
  have HM := Lib.hid (mayE_any v l w hv hl)
  obtain ⟨A, c, rfl⟩ := hv.form
  have h2 : (Ent.may l != 0) = true := by simpa using hm
  generalize Ent.may l = m at *
  clear hv hm
  go_enter Try.func21, Try.ntmps21
  go_wp2_with fail
  refine HM.out.mono ?_
  rintro e w1 ⟨rfl, he1⟩
  go_wp2
  go_ret2
  exact ⟨rfl, he1⟩
set_option maxRecDepth 100000 in
set_option maxHeartbeats 8000000 in
theorem pack_ok (v : Value) (l : List Ent.E) (w : World) (hv : RE w v l) (hm : Ent.may l = 0) :
    Calls Try.prog 21 #[v] w fun e w' => ∃ u, e = .returned (.tuple #[u, .int .i64 0]) ∧ RV RB w' u (Ent.pkF l) ∧ Ext w w' := by
  obtain ⟨hok, hlen⟩ := Ent.may_ok hm
  have HM := Lib.hid (mayE_any v l w hv (by omega))
  rw [hm] at HM
  have HV := Lib.hid hv
  have HOK := Lib.hid hok
  have HLEN := Lib.hid hlen
  obtain ⟨A, c, rfl⟩ := hv.form
  clear hv hm hok hlen
  go_enter Try.func21, Try.ntmps21
  go_wp2_with fail
  refine HM.out.mono ?_
  rintro e w1 ⟨rfl, he1⟩
  have HX1 := Lib.hid he1
  clear he1 HM
  go_wp2
  go_loopw [5, 6, 17] (fun o la iv wr => ∃ (k : Nat) (out : List (List UInt8)) (last : List UInt8) (us : List Value), k ≤ l.length ∧ iv = .int .i64 (k : Int) ∧ PkI w1.heap.size wr o la out last us ∧ ((k = 0 ∧ out = [] ∧ last = []) ∨ (0 < k ∧ last ≠ [] ∧ Ent.pkF (l.take k) = out ++ [last])) ∧ last.length ≤ 43 ∧ out.length ≤ k ∧ Ext w1 wr) (fun _ _ iv _ => l.length - (intOf iv).toNat)
  case atStart => exact ⟨0, [], [], [], Nat.zero_le _, rfl, PkI.nil _ _ (Nat.le_refl _), .inl ⟨rfl, rfl, rfl⟩, by simp, Nat.le_refl _, Ext.refl _⟩
  case round =>
    obtain ⟨k, out, last, us, hk, rfl, hI, hst, hll, hol, hext⟩ := hrel
    have HI := Lib.hid hI
    have HST := Lib.hid hst
    have HE := Lib.hid hext
    have HLL := Lib.hid hll
    have HOLN := Lib.hid hol
    obtain ⟨AO, cO, rfl⟩ := hI.rows.rv.form
    obtain ⟨AL, cL, rfl⟩ := hI.last.form
    clear hI hst
    by_cases hlt : k < l.length
    · have g1 : (k : Int) < (l.length : Int) := by omega
      have g0 : 0 ≤ (k : Int) := by omega
      have hkb : k ≤ 1000000 := by have := HLEN.out; omega
      have HLT := Lib.hid hlt
      obtain ⟨bA, oA, rfl, c0, c1, c2, c3⟩ := re4 ((HV.out.ext HX1.out).ext hext) hlt
      have hxok := HOK.out _ (List.getElem_mem hlt)
      have HP := Lib.hid (fun w => putE_any l[k] w hxok)
      have HBL := Lib.hid (Ent.entL_len hxok)
      have HPT := Lib.hid (Ent.pkF_take l hlt)
      generalize l[k] = x at *
      generalize Ent.entL x = b at *
      obtain ⟨⟨x1, x2⟩, x3, x4⟩ := x
      dsimp only at *
      have hxl : Ext wr (wr.alloc (.cells #[.int .i64 x1, .int .i64 x2, .int .i64 x3, .int .i64 x4] 28)) := (Ext.refl _).alloc _
      have HXL := Lib.hid hxl
      obtain ⟨y0, y1, y2, y3⟩ := Bx4.new wr 28 x1 x2 x3 x4
      clear hext hk hlt hxl hxok hol
      go_upto_region 9 with fail
      clear c0 c1 c2 c3
      generalize wr.heap.size = q at *
      generalize wr.alloc (.cells #[.int .i64 x1, .int .i64 x2, .int .i64 x3, .int .i64 x4] 28) = w5 at *
      go_wp2_with fail
      refine (HP.out _).mono ?_
      rintro e w6 ⟨vb, rfl, hob, he6⟩
      have HOB := Lib.hid hob
      have HBX := Lib.hid (show ∀ g, vb.ownBlock = some g → (Value.slice AO out.length cO).ownBlock ≠ some g from fun g h1 h2 => by
        have h3 := (hob.own.lt g h1).1
        have h4 := ((HI.out.ext HXL.out).rows.own.lt g h2).2
        omega)
      obtain ⟨AB, cB, rfl⟩ := hob.form
      have HI6 := Lib.hid (HI.out.ext (HXL.out.trans he6))
      have HX6 := Lib.hid ((HE.out.trans HXL.out).trans he6)
      have hbl : b.length ≤ 16 := HBL.out.2
      have hll2 : last.length ≤ 43 := HLL.out
      clear hob he6 y0 y1 y2 y3 HI HE HXL
      by_cases hc : 43 < last.length + b.length
      · have gc : (43 : Int) < ((last.length + b.length : Nat) : Int) := by omega
        have gc2 : (43 : Int) < (last.length : Int) + (b.length : Int) := by omega
        have HC := Lib.hid hc
        have HOL := Lib.hid (HI6.out.rows.ext ((Ext.refl w6).alloc (.cells #[.slice AL last.length cL] 38)))
        have HLIT := Lib.hid (show Rd (w6.alloc (.cells #[.slice AL last.length cL] 38)) 1 (.slice (some ⟨w6.heap.size, 0, none⟩) 1 1) 1 [.slice AL last.length cL] from Rd.lit w6 #[.slice AL last.length cL] 38 1 rfl (by unfold maxLen; omega))
        clear hc
        go_wp2_with (first | (at_builtin; refine wpList_app rfl elemBB (w6.alloc (.cells #[.slice AL last.length cL] 38)) _ _ rfl w1.heap.size _ out.length us rfl HOL.out.own _ 1 [.slice AL last.length cL] rfl HLIT.out (by intro u hu; rw [List.mem_singleton.1 hu]; rfl) (by have := HOLN.out; omega) (by have := HOLN.out; unfold maxLen; omega) (by have := HI6.out.bw; simp; omega) ?_; intro v7 w7 ha; have HI7 := Lib.hid (HI6.out.flush ha); have HX7 := Lib.hid (show Ext w1 w7 from ha.ext (HX6.out.alloc _) rfl HOL.out.own); have HBR7 := Lib.hid (show RB w7 (.slice AB b.length cB) b from ((OB.oe (HOB.out.ext ((Ext.refl w6).alloc (.cells #[.slice AL last.length cL] 38)))).grown ha.grown (fun g h1 h2 => HBX.out g h1 h2)).ob.rb); obtain ⟨A7, c7, hv7⟩ := HI7.out.rows.rv.form; rw [List.length_append, List.length_singleton] at hv7; subst hv7; clear ha) | (at_builtin; refine wpList_app rfl elemB _ (.tmp 33) (.tmp 34) rfl w1.heap.size _ 0 [] rfl HI7.out.last.own _ b.length (b.map byteV) rfl HBR7.out.rd (one_byteV b) (by omega) (by unfold maxLen; omega) HI7.out.bw ?_; intro v8 w8 ha))
        have hpk : Ent.pkF (l.take (k + 1)) = out ++ [last] ++ [b] := by
          rcases HST.out with ⟨_, _, h3⟩ | ⟨_, _, h3⟩
          · subst h3; have h7 := HC.out; have h8 := HBL.out; rw [List.length_nil] at h7; omega
          · rw [HPT.out, h3]; exact Ent.addP_new HC.out
        exact ⟨⟨k + 1, out ++ [last], b, us ++ [.slice AL last.length cL], HLT.out, by go_num, PkI.more (last := []) HI7.out ha, .inr ⟨by omega, fun h => by have := HBL.out.1; rw [h] at this; simp at this, hpk⟩, by omega, by rw [List.length_append]; have := HOLN.out; simp; omega, ha.ext HX7.out rfl HI7.out.last.own⟩, by have := HLT.out; simp [intOf]; omega⟩
      · have gc : ¬ (43 : Int) < ((last.length + b.length : Nat) : Int) := by omega
        have gc2 : ¬ (43 : Int) < (last.length : Int) + (b.length : Int) := by omega
        have HC := Lib.hid hc
        have HBR := Lib.hid (show RB w6 (.slice AB b.length cB) b from HOB.out.rb)
        clear hc
        go_wp2_with (at_builtin; refine wpList_app rfl elemB _ (.tmp 33) (.tmp 34) rfl w1.heap.size _ last.length (last.map byteV) rfl HI6.out.last.own _ b.length (b.map byteV) rfl HBR.out.rd (one_byteV b) (by omega) (by unfold maxLen; omega) HI6.out.bw ?_; intro v8 w8 ha)
        have hpk : Ent.pkF (l.take (k + 1)) = out ++ [last ++ b] := by
          rcases HST.out with ⟨h1, h2, h3⟩ | ⟨_, _, h3⟩
          · subst h1 h2 h3; rw [HPT.out]; rfl
          · rw [HPT.out, h3]; exact Ent.addP_more HC.out
        exact ⟨⟨k + 1, out, last ++ b, us, HLT.out, by go_num, PkI.more HI6.out ha, .inr ⟨by omega, fun h => by have h1 := HBL.out.1; have h2 := congrArg List.length h; rw [List.length_append, List.length_nil] at h2; omega, hpk⟩, by rw [List.length_append]; have := HC.out; omega, by have := HOLN.out; omega, ha.ext HX6.out rfl HI6.out.last.own⟩, by have := HLT.out; simp [intOf]; omega⟩
    · have hk2 : k = l.length := by omega
      have g1 : ¬ (k : Int) < (l.length : Int) := by omega
      have HK := Lib.hid hk2
      clear hext hk hlt hk2 hol
      by_cases h0 : 0 < last.length
      · have g3 : (0 : Int) < (last.length : Int) := by omega
        have hpk : Ent.pkF l = out ++ [last] := by
          rcases HST.out with ⟨_, _, h3⟩ | ⟨_, _, h3⟩
          · subst h3; exact absurd h0 (by simp)
          · rw [HK.out, List.take_length] at h3; exact h3
        have HPK := Lib.hid hpk
        have HOL := Lib.hid (HI.out.rows.ext ((Ext.refl wr).alloc (.cells #[.slice AL last.length cL] 38)))
        have HLIT := Lib.hid (show Rd (wr.alloc (.cells #[.slice AL last.length cL] 38)) 1 (.slice (some ⟨wr.heap.size, 0, none⟩) 1 1) 1 [.slice AL last.length cL] from Rd.lit wr #[.slice AL last.length cL] 38 1 rfl (by unfold maxLen; omega))
        have hob2 : out.length ≤ 1000000 := by have := HOLN.out; have := HLEN.out; have := HK.out; omega
        have HOB2 := Lib.hid hob2
        clear hpk h0 hob2 hll
        go_wp2_with (at_builtin; refine wpList_app rfl elemBB (wr.alloc (.cells #[.slice AL last.length cL] 38)) _ _ rfl w1.heap.size _ out.length us rfl HOL.out.own _ 1 [.slice AL last.length cL] rfl HLIT.out (by intro u hu; rw [List.mem_singleton.1 hu]; rfl) (by have := HOB2.out; omega) (by have := HOB2.out; unfold maxLen; omega) (by have := HI.out.bw; simp; omega) ?_; intro v7 w7 ha; have HI7 := Lib.hid (HI.out.flush ha); have HX7 := Lib.hid (show Ext w1 w7 from ha.ext (HE.out.alloc _) rfl HOL.out.own); obtain ⟨A7, c7, hv7⟩ := HI7.out.rows.rv.form; rw [List.length_append, List.length_singleton] at hv7; subst hv7; clear ha)
        go_ret2
        rw [HPK.out]
        exact ⟨_, rfl, HI7.out.rows.rv.map (fun u x q => RE.rb q), HX1.out.trans HX7.out⟩
      · have g3 : ¬ (0 : Int) < (last.length : Int) := by omega
        have hpk : Ent.pkF l = out := by
          rcases HST.out with ⟨h1, h2, _⟩ | ⟨_, h2, _⟩
          · have h3 := HK.out
            rw [h1] at h3
            rw [List.eq_nil_of_length_eq_zero h3.symm, h2]; rfl
          · exact absurd (List.eq_nil_of_length_eq_zero (by omega)) h2
        have HPK := Lib.hid hpk
        clear hpk h0 hll
        go_wp2
        go_ret2
        rw [HPK.out]
        exact ⟨_, rfl, HI.out.rows.rv.map (fun u x q => RE.rb q), HX1.out.trans HE.out⟩
end Go.Proofs.Ytacpomonidmjaaa
