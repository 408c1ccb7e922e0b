/-
  The document's Pack.
-/
import Derived.Test.YtacpomonidmjaaaEntPack
namespace Go.Proofs.Ytacpomonidmjaaa
open Go.RowKit Go.Ox Go.Shelf
attribute [local irreducible] OB RB
set_option linter.unusedVariables false
set_option linter.unusedSimpArgs false

theorem frozen_at {w w' : World} {p : Addr} (h : w'.heap[p.block]? = w.heap[p.block]?) : w'.frozen? p = w.frozen? p := by simp [World.frozen?, h]
theorem own_some {E base : Nat} {w : World} {v : Value} {l : List UInt8} (h : OE E base w v l) (hne : l ≠ []) : ∃ g, v.ownBlock = some g ∧ base ≤ g := by
  rcases h.own.2 with ⟨_, q⟩ | ⟨g, cp, cur, hv, hbg, _⟩
  · exact absurd (List.eq_nil_of_length_eq_zero q) hne
  · exact ⟨g, by rw [hv]; rfl, hbg⟩

set_option maxRecDepth 100000 in
set_option maxHeartbeats 8000000 in
theorem rpack_any (v : Value) (l : List Ent.E) (w : World) (hv : RE w v l) (hm : Ent.may l = 0) :
    Calls Try.prog 22 #[v] w fun e w' => ∃ u, e = .returned u ∧ RV RB w' u (Ent.pkF l) ∧ Ext w w' := by
  obtain ⟨hok, hlen⟩ := Ent.may_ok hm
  have HV := Lib.hid hv
  have HOK := Lib.hid hok
  have HLEN := Lib.hid hlen
  obtain ⟨A, c, rfl⟩ := hv.form
  clear hv hm hok hlen
  go_enter Try.func22, Try.ntmps22
  go_wp2
  go_loopw [3, 4] (fun o iv wr => ∃ (k : Nat) (us : List Value), k ≤ l.length ∧ iv = .int .i64 (k : Int) ∧ OV 38 5 w.heap.size wr o (Ent.pkF (l.take k)) us ∧ Ext w wr) (fun _ iv _ => l.length - (intOf iv).toNat)
  case atStart => exact ⟨0, [], Nat.zero_le _, rfl, OV.nil _ _ _ _, Ext.refl _⟩
  case round =>
    obtain ⟨k, us, hk, rfl, hO, hext⟩ := hrel
    have HO := Lib.hid hO
    have HE := Lib.hid hext
    obtain ⟨AO, cO, rfl⟩ := hO.rv.form
    have HFL := Lib.hid (show (Ent.pkF (l.take k)).length ≤ 1000000 by have h1 := Ent.pkF_len (l.take k); have h2 := HLEN.out; rw [List.length_take] at h1; omega)
    clear hO
    by_cases hlt : k < l.length
    · have g1 : (k : Int) < (l.length : Int) := by omega
      have g0 : 0 ≤ (k : Int) := by omega
      have hkb : k ≤ 1000000 := by have := HLEN.out; omega
      have HLT := Lib.hid hlt
      obtain ⟨bA, oA, rfl, c0, c1, c2, c3⟩ := re4 (HV.out.ext hext) hlt
      have hxok := HOK.out _ (List.getElem_mem hlt)
      have HP := Lib.hid (fun w => rputE_any l[k] w hxok)
      have HBL := Lib.hid (Ent.entL_len hxok)
      have HPT := Lib.hid (Ent.pkF_take l hlt)
      have HLAST := Lib.hid (show l.take k ≠ [] → ∃ out x, Ent.pkF (l.take k) = out ++ [x] ∧ x ≠ [] ∧ x.length ≤ 43 from fun h => Ent.pkF_last (fun e he => HOK.out e (List.mem_of_mem_take he)) h)
      have HK0 := Lib.hid (show l.take k = [] → Ent.pkF (l.take k) = [] from fun h => by rw [h]; rfl)
      generalize l[k] = x at *
      generalize Ent.entL x = b at *
      generalize Ent.pkF (l.take k) = F at *
      obtain ⟨⟨x1, x2⟩, x3, x4⟩ := x
      dsimp only at *
      clear hext hk hlt hxok
      go_wp2_with fail
      refine (HP.out _).mono ?_
      rintro e w6 ⟨vb, rfl, hob, he6⟩
      have HOB := Lib.hid hob
      have HBX := Lib.hid (show ∀ g, vb.ownBlock = some g → wr.heap.size ≤ g from fun g h1 => (hob.own.lt g h1).1)
      obtain ⟨AB, cB, rfl⟩ := hob.form
      have HO6 := Lib.hid (HO.out.ext he6)
      have HX6 := Lib.hid (HE.out.trans he6)
      have HSZ := Lib.hid he6.size
      have hbl : b.length ≤ 16 := HBL.out.2
      clear hob he6 c0 c1 c2 c3 HP
      by_cases ht : l.take k = []
      · have hF := HK0.out ht
        subst hF
        have hwr : IntKind.i64.wrap ((([] : List (List UInt8)).length : Int) - 1) = -1 := by simp; exact IntWalk.i64_in _ (by omega)
        clear ht HLAST HK0
        have HOL := Lib.hid (HO6.out.ext ((Ext.refl w6).alloc (.cells #[.slice AB b.length cB] 38)))
        have HLIT := Lib.hid (show Rd (w6.alloc (.cells #[.slice AB b.length cB] 38)) 1 (.slice (some ⟨w6.heap.size, 0, none⟩) 1 1) 1 [.slice AB b.length cB] from Rd.lit w6 #[.slice AB b.length cB] 38 1 rfl (by unfold maxLen; omega))
        go_wp2_with (at_builtin; refine wpList_app rfl elemBB (w6.alloc (.cells #[.slice AB b.length cB] 38)) _ _ rfl w.heap.size _ ([] : List (List UInt8)).length us rfl HOL.out.own _ 1 [.slice AB b.length cB] rfl HLIT.out (by intro u hu; rw [List.mem_singleton.1 hu]; rfl) (by have := HFL.out; omega) (by have := HFL.out; unfold maxLen; omega) (by have := HX6.out.size; simp; omega) ?_; intro v7 w7 ha)
        have hpush := HO6.out.push (OE.low (OB.oe HOB.out) (HE.out.size)) (fun g h1 h2 => by have h3 := HBX.out g h1; have h4 := (HO.out.own.lt g h2).2; omega) (fun j y hy g h1 h2 => by have h3 := HBX.out g h1; have h4 := (HO.out.row_lt hy h2).2; omega) ha
        exact ⟨⟨k + 1, us ++ [.slice AB b.length cB], HLT.out, by go_num, by rw [HPT.out, Ent.addP_nil]; exact hpush, ha.ext (HX6.out.alloc _) rfl HOL.out.own⟩, by have := HLT.out; simp [intOf]; omega⟩
      · obtain ⟨out, x, hF, hxne, hx43⟩ := HLAST.out ht
        subst hF
        have hjl : out.length < (out ++ [x]).length := by simp
        obtain ⟨bb, cap, u, hv2, husj, hc, hfz, hbb, hou, hub⟩ := HO6.out.at_ hjl
        injection hv2 with hv1 hv3 hv4
        subst hv1
        have hou' : OE 5 w.heap.size w6 u x := by simpa using hou
        obtain ⟨Au, cu, rfl⟩ := hou'.re.form
        have hnl : (out ++ [x]).length = out.length + 1 := by simp
        obtain ⟨j, hj⟩ : ∃ j, j = out.length := ⟨_, rfl⟩
        have hwr : IntKind.i64.wrap (((out ++ [x]).length : Int) - 1) = (j : Int) := by
          have := HFL.out
          rw [hnl] at this ⊢
          rw [hj, IntWalk.i64_in _ (by omega)]; omega
        have gj : (j : Int) < ((out ++ [x]).length : Int) := by rw [hnl]; omega
        have gjn : j < (out ++ [x]).length := by rw [hnl]; omega
        have gj0 : 0 ≤ (j : Int) := by omega
        have gjm : ¬ (j : Int) < 0 := by omega
        have HJ := Lib.hid hj
        have hc : w6.cell? ⟨bb, j, none⟩ = some (.slice Au x.length cu) := by rw [hj]; exact hc
        have HFZ := Lib.hid (show w6.frozen? ⟨bb, j, none⟩ = false by rw [hj]; exact hfz)
        have HUJ := Lib.hid husj
        have HOU := Lib.hid hou'
        have HBB := Lib.hid hbb
        have HUB := Lib.hid hub
        have HNE := Lib.hid hxne
        have hBLT := Lib.hid (HO6.out.own.lt bb rfl).2
        have HNL := Lib.hid hnl
        generalize hF2 : out ++ [x] = F at *
        have HF2 := Lib.hid hF2
        have hFb : (F.length : Int) ≤ 1000000 := by have := HFL.out; omega
        clear husj hou hou' hbb hub hfz hj hnl hjl hF2 ht HLAST HK0 hv3 hv4 hxne
        by_cases hcc : 43 < x.length + b.length
        · have gc : (43 : Int) < ((x.length + b.length : Nat) : Int) := by omega
          have gc2 : (43 : Int) < (x.length : Int) + (b.length : Int) := by omega
          have HADD := Lib.hid (show Ent.addP F b = F ++ [b] by rw [← HF2.out]; exact Ent.addP_new hcc)
          clear hcc
          have HOL := Lib.hid (HO6.out.ext ((Ext.refl w6).alloc (.cells #[.slice AB b.length cB] 38)))
          have HLIT := Lib.hid (show Rd (w6.alloc (.cells #[.slice AB b.length cB] 38)) 1 (.slice (some ⟨w6.heap.size, 0, none⟩) 1 1) 1 [.slice AB b.length cB] from Rd.lit w6 #[.slice AB b.length cB] 38 1 rfl (by unfold maxLen; omega))
          go_wp2_with (at_builtin; refine wpList_app rfl elemBB (w6.alloc (.cells #[.slice AB b.length cB] 38)) _ _ rfl w.heap.size _ F.length us rfl HOL.out.own _ 1 [.slice AB b.length cB] rfl HLIT.out (by intro u hu; rw [List.mem_singleton.1 hu]; rfl) (by have := HFL.out; omega) (by have := HFL.out; unfold maxLen; omega) (by have := HX6.out.size; simp; omega) ?_; intro v7 w7 ha)
          have hpush := HO6.out.push (OE.low (OB.oe HOB.out) (HE.out.size)) (fun g h1 h2 => by have h3 := HBX.out g h1; have h4 := (HO.out.own.lt g h2).2; omega) (fun j y hy g h1 h2 => by have h3 := HBX.out g h1; have h4 := (HO.out.row_lt hy h2).2; omega) ha
          exact ⟨⟨k + 1, us ++ [.slice AB b.length cB], HLT.out, by go_num, by rw [HPT.out, HADD.out]; exact hpush, ha.ext (HX6.out.alloc _) rfl HOL.out.own⟩, by have := HLT.out; simp [intOf]; omega⟩
        · have gc : ¬ (43 : Int) < ((x.length + b.length : Nat) : Int) := by omega
          have gc2 : ¬ (43 : Int) < (x.length : Int) + (b.length : Int) := by omega
          have HADD := Lib.hid (show Ent.addP F b = out ++ [x ++ b] by rw [← HF2.out]; exact Ent.addP_more hcc)
          clear hcc
          go_upto_region 9 with fail
          have HXL := Lib.hid ((Ext.refl w6).alloc (.cells #[] 5))
          have hcA := HXL.out.cell hc
          have HEL := Lib.hid (OB.emptyL w6 5)
          have HXR := Lib.hid ((HOU.out.ext HXL.out).ob.rb)
          have HBR := Lib.hid (show RB w6 (.slice AB b.length cB) b from HOB.out.rb)
          go_wp2_with (first | (refine wpList_appBB rfl elemB w6 _ (.tmp 40) (.tmp 44) rfl _ [] rfl HEL.out HXL.out _ x rfl HXR.out (by simp; omega) ?_; intro v7 w7 ho7 he7 hg7; rw [List.nil_append] at ho7; obtain ⟨A7, c7, rfl⟩ := ho7.form; have HO7 := Lib.hid ho7; have HE7 := Lib.hid he7; clear ho7 he7 hg7) | (refine wpList_appBB rfl elemB w6 _ (.tmp 45) (.tmp 46) rfl _ x rfl HO7.out HE7.out _ b rfl (HBR.out.ext HE7.out) (by omega) ?_; intro v8 w8 ho8 he8 hg8; have HO8 := Lib.hid ho8; have HE8 := Lib.hid he8; obtain ⟨A8, c8, hv8⟩ := ho8.form; rw [List.length_append] at hv8; subst hv8; have d0 := he8.cell hc; have f0 : w8.frozen? ⟨bb, j, none⟩ = false := (frozen_at (he8.block hBLT.out)).trans HFZ.out; clear ho8 he8 hg8))
          have hg : w6.grownBy w8 (Value.ownBlock (.slice Au x.length cu)) := ⟨HE8.out.os, HE8.out.tape, HE8.out.output, HE8.out.size, fun _ hk _ => HE8.out.block hk⟩
          obtain ⟨g8, hg8, hge⟩ := own_some (OB.oe HO8.out) (fun h => HNE.out (List.append_eq_nil_iff.1 h).1)
          have hov := OV.grow (r := b) HO6.out (by have := HNL.out; omega) HUJ.out (l := x) (by simp [← HF2.out]) hg (.inr (.inr ⟨g8, hg8, hge⟩)) (OE.low (OB.oe HO8.out) HX6.out.size)
          have hfs : F.set j (x ++ b) = out ++ [x ++ b] := by rw [HJ.out, ← HF2.out]; simp
          rw [← HJ.out, hfs, ← HADD.out, ← HPT.out] at hov
          exact ⟨⟨k + 1, _, HLT.out, by go_num, hov, ExtQ.ext (Q := fun g => g = bb) (ExtQ.setCell (Q := fun g => g = bb) (p := ⟨bb, j, none⟩) (ExtQ.of (HX6.out.trans HE8.out)) rfl _) (fun g hg => by have := HBB.out; omega)⟩, by have := HLT.out; simp [intOf]; omega⟩
    · have hk2 : k = l.length := by omega
      have g1 : ¬ (k : Int) < (l.length : Int) := by omega
      have HK := Lib.hid (show Ent.pkF (l.take k) = Ent.pkF l by rw [hk2, List.take_length])
      generalize Ent.pkF (l.take k) = F at *
      clear hext hk hlt hk2
      go_wp2
      go_ret
      rw [← HK.out]
      exact ⟨_, rfl, HO.out.rv.map (fun u x q => RE.rb q), HE.out⟩
end Go.Proofs.Ytacpomonidmjaaa
