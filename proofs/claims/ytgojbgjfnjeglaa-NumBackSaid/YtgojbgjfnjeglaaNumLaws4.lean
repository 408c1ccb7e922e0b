/-
  The statements of layer 1: what was put is read.
-/
import Derived.Test.YtgojbgjfnjeglaaNumLaws
import Derived.Test.YtgojbgjfnjeglaaRdr2
namespace Go.Proofs.Ytgojbgjfnjeglaa
open Go.RowKit Go.Ox
attribute [local irreducible] OB RB

/-- the bytes of the numbers of a list, of those that have some -/
def catN (l : List Int) : List UInt8 := l.flatMap fun z => if 0 ≤ z then Num.put z.toNat else []
theorem catN_snoc (l : List Int) (z : Int) : catN (l ++ [z]) = catN l ++ (if 0 ≤ z then Num.put z.toNat else []) := by unfold catN; simp
theorem catN_cons (l : List Int) (z : Int) : catN (z :: l) = (if 0 ≤ z then Num.put z.toNat else []) ++ catN l := by unfold catN; rw [List.flatMap_cons]
theorem put_9 {n : Nat} (h : n < 9223372036854775808) : (Num.put n).length ≤ 9 := by
  have := Num.put_le n
  have := (Num.width_le 8 n (by omega)).2 (by omega)
  omega
theorem catN_len : ∀ (l : List Int), (∀ z ∈ l, -9223372036854775808 ≤ z ∧ z ≤ 9223372036854775807) → (catN l).length ≤ 9 * l.length
  | [], _ => by simp [catN]
  | z :: l, h => by
    have ih := catN_len l fun x hx => h x (List.mem_cons_of_mem _ hx)
    have hz := h z (List.mem_cons_self ..)
    rw [catN_cons, List.length_append, List.length_cons]
    split
    · have := put_9 (n := z.toNat) (by omega); omega
    · simp; omega

set_option maxRecDepth 100000 in
set_option maxHeartbeats 1000000 in
theorem numBack_long (u : Value) (s : ByteArray) (n c : Nat) (A : Option Addr) (w : World) (hv : u = .slice A n c) (h : 100 < n ∨ 3000 < s.size) :
    Calls Try.prog 5 #[u, .string s] w fun e w' => e = .returned (.bool true) ∧ Ext w w' := by
  subst hv
  by_cases g : 100 < n
  · have g : (100 : Int) < (n : Int) := by omega
    clear h
    go_enter Try.func5, Try.ntmps5
    go_wp2_with (go_at_call 8; refine (lives_any _).mono ?_; rintro e w1 ⟨rfl, he1⟩)
    go_ret
    exact ⟨rfl, he1⟩
  · have g1 : ¬ (100 : Int) < (n : Int) := by omega
    have g2 : (3000 : Int) < (s.size : Int) := by omega
    clear h
    go_enter Try.func5, Try.ntmps5
    go_wp2_with (go_at_call 8; refine (lives_any _).mono ?_; rintro e w1 ⟨rfl, he1⟩)
    go_ret
    exact ⟨rfl, he1⟩

set_option maxRecDepth 100000 in
set_option maxHeartbeats 1000000 in
theorem numBack_any (u : Value) (zs : List Int) (sl : List UInt8) (w : World) (hu : Rd w 1 u zs.length (zs.map (Value.int .i64))) (hz : ∀ z ∈ zs, -9223372036854775808 ≤ z ∧ z ≤ 9223372036854775807) (hn : zs.length ≤ 100) (hs : sl.length ≤ 3000) :
    Calls Try.prog 5 #[u, .string ⟨sl.toArray⟩] w fun e w' => e = .returned (.bool true) ∧ Ext w w' := by
  obtain ⟨A, c, rfl, hrd⟩ := hu
  have HU := Lib.hid hrd
  have HZ := Lib.hid hz
  have g1 : ¬ (100 : Int) < (zs.length : Int) := by omega
  have g2 : ¬ (3000 : Int) < (sl.length : Int) := by omega
  clear hrd hz
  go_enter Try.func5, Try.ntmps5
  go_wp2
  go_loopw [5, 6] (fun b i wr => ∃ k : Nat, k ≤ zs.length ∧ i = .int .i64 k ∧ OB 5 w.heap.size wr b (catN (zs.take k)) ∧ Ext w wr) (fun _ i _ => zs.length - (intOf i).toNat)
  case atStart => exact ⟨0, Nat.zero_le _, rfl, by rw [List.take_zero]; unfold OB; exact World.ownsRow_nil _ _ _ _, Ext.refl _⟩
  case round =>
    obtain ⟨k, hk, rfl, hown, hext⟩ := hrel
    have HO := Lib.hid hown
    have HE := Lib.hid hext
    clear hown hext
    by_cases hlt : k < zs.length
    · have g0 : (k : Int) < (zs.length : Int) := by omega
      have g3 : 0 ≤ (k : Int) := by omega
      obtain ⟨bb, oo, rfl⟩ := HU.out.addr (by omega)
      have hcell := (HU.out.ext HE.out).get (j := k) (u := .int .i64 zs[k]) (by rw [List.getElem?_map, List.getElem?_eq_getElem hlt]; rfl)
      have hzk := HZ.out zs[k] (List.getElem_mem hlt)
      have hsn := catN_snoc (zs.take k) zs[k]
      rw [← List.take_succ_eq_append_getElem hlt] at hsn
      have hcl := catN_len (zs.take k) fun x hx => HZ.out x (List.mem_of_mem_take hx)
      rw [List.length_take, Nat.min_eq_left hk] at hcl
      have HSN := Lib.hid hsn
      clear hsn
      generalize zs[k] = z at *
      generalize catN (zs.take k) = C at *
      by_cases hz0 : 0 ≤ z
      · obtain ⟨m, rfl⟩ : ∃ m : Nat, z = m := ⟨z.toNat, by omega⟩
        have HP := Lib.hid (fun w => put_any m w (by omega))
        have hp9 := put_9 (n := m) (by omega)
        rw [if_pos hz0, Int.toNat_natCast] at HSN
        generalize Num.put m = M at *
        have hm0 : (0 : Int) ≤ (m : Int) := hz0
        clear hz0
        go_wp2_with (first
          | (go_at_call 9; refine (HP.out _).mono ?_; rintro e w1 ⟨v1, rfl, ho1, he1⟩; have hcell1 := he1.cell hcell; have HV := Lib.hid ho1.rb.rd; clear ho1)
          | (at_builtin; refine wpList_app rfl elemB _ _ _ rfl w.heap.size _ C.length _ rfl (HO.out.ext he1).own _ M.length _ rfl HV.out (one_byteV _) (by omega) (by unfold maxLen; omega) (Nat.le_trans HE.out.size he1.size) ?_; intro v2 w2 ha))
        refine ⟨⟨k + 1, by omega, by go_num, ?_, ha.ext (HE.out.trans he1) rfl (HO.out.ext he1).own⟩, by simp [intOf]; omega⟩
        rw [HSN.out]
        exact OB.app ha.own
      · have hzn : z < 0 := by omega
        rw [if_neg hz0, List.append_nil] at HSN
        have hd : decide (0 ≤ z) = false := by simpa using hz0
        clear hz0
        go_wp2_with (first
          | (go_at_call 9; refine (put_neg _ _ hzn).mono ?_; rintro e w' ⟨rfl, rfl⟩)
          | (at_builtin; refine wpList_app rfl elemB _ _ _ rfl w.heap.size _ C.length _ rfl HO.out.own _ 0 [] rfl (Rd.nil _ _) (by simp) (by omega) (by unfold maxLen; omega) HE.out.size ?_; intro v2 w2 ha))
        refine ⟨⟨k + 1, by omega, by go_num, ?_, ha.ext HE.out rfl HO.out.own⟩, by simp [intOf]; omega⟩
        rw [HSN.out]
        have := ha.own
        unfold OB
        simpa using this
    · obtain rfl : k = zs.length := by omega
      rw [List.take_length] at HO
      have hcl := catN_len zs HZ.out
      have HT := Lib.hid (fun w => text_any ⟨sl.toArray⟩ w (by show sl.toArray.size ≤ _; simp; omega))
      have htx := fun r => Num.textP_app (s := sl) (most := 3000) (by omega) (by omega) r
      have hpl := put_9 (n := sl.length) (by omega)
      rw [show (⟨sl.toArray⟩ : ByteArray).size = sl.length from by show sl.toArray.size = _; simp, show (⟨sl.toArray⟩ : ByteArray).data.toList = sl from rfl] at HT
      have HTX := Lib.hid (htx [])
      rw [List.append_nil, show ((3000 : Nat) : Int) = 3000 from rfl] at HTX
      clear htx
      have hTl : (Num.put sl.length ++ sl).length ≤ 3009 := by simp; omega
      generalize Num.put sl.length ++ sl = T at *
      generalize hC : catN zs = C at *
      have HC := Lib.hid hC
      clear hC
      go_wp2_with (first
        | (go_at_call 12; refine (HT.out _).mono ?_; rintro e w1 ⟨v1, rfl, ho1, he1⟩; have HV := Lib.hid ho1.rb.rd; clear ho1)
        | (at_builtin; refine wpList_app rfl elemB _ _ _ rfl w.heap.size _ C.length _ rfl (HO.out.ext he1).own _ T.length _ rfl HV.out (one_byteV _) (by omega) (by unfold maxLen; omega) (Nat.le_trans HE.out.size he1.size) ?_; intro v2 w2 ha))
      have HO2 := Lib.hid (OB.app ha.own).rb
      have HX2 := Lib.hid (ha.ext (HE.out.trans he1) rfl (HO.out.ext he1).own)
      clear ha
      refine (from_any v2 _ w2 HO2.out (by rw [List.length_append]; omega)).mono ?_
      rintro e w3 ⟨g, rfl, hr3, he3, hg3⟩
      have HR3 := Lib.hid hr3
      clear hr3
      go_wp2_with fail
      refine (lives_any _).mono ?_
      rintro e w4 ⟨rfl, he4⟩
      have HR4 := Lib.hid (HR3.out.ext he4)
      have HX4 := Lib.hid ((HX2.out.trans he3).trans he4)
      have HG := Lib.hid (Nat.le_trans HX2.out.size hg3)
      clear HR3 he3 he4 hg3
      go_wp2
      go_loopw [10] (fun i wr => ∃ k : Nat, k ≤ zs.length ∧ i = .int .i64 k ∧ NR wr g ⟨catN (zs.drop k) ++ T, false⟩ ∧ Ext w wr) (fun i _ => zs.length - (intOf i).toNat)
      case atStart => exact ⟨0, Nat.zero_le _, rfl, by rw [List.drop_zero, HC.out]; exact HR4.out, HX4.out⟩
      case round =>
        obtain ⟨k, hk, rfl, hr, hext⟩ := hrel
        have HR := Lib.hid hr
        have HE2 := Lib.hid hext
        clear hr hext
        by_cases hlt : k < zs.length
        · have g0 : (k : Int) < (zs.length : Int) := by omega
          have g3 : 0 ≤ (k : Int) := by omega
          obtain ⟨bb, oo, rfl⟩ := HU.out.addr (by omega)
          have hcell := (HU.out.ext HE2.out).get (j := k) (u := .int .i64 zs[k]) (by rw [List.getElem?_map, List.getElem?_eq_getElem hlt]; rfl)
          have hzk := HZ.out zs[k] (List.getElem_mem hlt)
          have hdr : zs.drop k = zs[k] :: zs.drop (k + 1) := List.drop_eq_getElem_cons hlt
          rw [hdr, catN_cons] at HR
          have hcl2 := catN_len (zs.drop (k + 1)) fun x hx => HZ.out x (List.mem_of_mem_drop hx)
          rw [List.length_drop] at hcl2
          clear hdr
          generalize zs[k] = z at *
          generalize hD : catN (zs.drop (k + 1)) = D at *
          have HD := Lib.hid hD
          clear hD
          by_cases hz0 : 0 ≤ z
          · obtain ⟨m, rfl⟩ : ∃ m : Nat, z = m := ⟨z.toNat, by omega⟩
            rw [if_pos hz0, Int.toNat_natCast, List.append_assoc] at HR
            have hp9 := put_9 (n := m) (by omega)
            have HN := Lib.hid (fun w' (hS : NR w' g ⟨Num.put m ++ (D ++ T), false⟩) => num_any g _ w' hS (by simp; omega))
            rw [Num.numP_put (by omega)] at HN
            have hm0 : (0 : Int) ≤ (m : Int) := hz0
            clear hz0
            go_wp2
            refine wp_regionY [70] [] Ext (ExtS [g]) (fun w => NR w g ⟨Num.put m ++ (D ++ T), false⟩) (by kernel_rfl) (by rfl) (by rfl) (by kernel_rfl) (by kernel_rfl) (by kernel_rfl) (fun _ _ _ x y => x.trans y) (ExtS.refl _) (fun _ _ x => ExtS.of x) (Ext.refl _).drew (fun _ _ x y => x.ext y) (HR.out) ?_
            repeat (first | (refine wpY_move0 rfl rfl (by first | exact runs0 | exact runs1 rfl) Ext.refl rfl rfl rfl ?_; apply Exists.intro; refine ⟨?_, ?_⟩; · (go_simp; rfl)) | (refine wpY_move rfl rfl (by first | exact runs0 | exact runs1 rfl) Ext.refl rfl rfl rfl (fun _ _ _ h _ => h) ?_) | (refine wpY_val rfl rfl (by first | exact runs0 | exact runs1 rfl) Ext.refl rfl ?_; apply Exists.intro; refine ⟨?_, ?_⟩; · (intro a w' hR; intro h1; (first | (have e1 : _ = _ := h1) | skip); intro h2; (first | (have e2 : _ = _ := h2) | skip); go_simp; rfl)) | (refine wpY_val rfl rfl (by first | exact runs0 | exact runs1 rfl) Ext.refl rfl ?_; apply Exists.intro; refine ⟨?_, ?_⟩; · (intro a w' hR; intro h1; (first | (have e1 : _ = _ := h1) | skip); go_simp; rfl)) | (refine wpY_val rfl rfl (by first | exact runs0 | exact runs1 rfl) Ext.refl rfl ?_; apply Exists.intro; refine ⟨?_, ?_⟩; · (intro a w' hR; go_simp; rfl)) | (refine wpY_val rfl rfl (by first | exact runs0 | exact runs1 rfl) Ext.refl rfl ?_; apply Exists.intro; refine ⟨?_, ?_⟩; · (intro a w' hR; intro h1; (first | (have e1 : _ = _ := h1) | skip); intro h2; (first | (have e2 : _ = _ := h2) | skip); intro h3; (first | (have e3 : _ = _ := h3) | skip); go_simp; rfl)) | (refine wpY_skip rfl rfl (by first | exact .inl rfl | exact .inr rfl) ?_))
            refine wpY_val rfl rfl (by first | exact runs0 | exact runs1 rfl) Ext.refl rfl ?_; apply Exists.intro; refine ⟨?_, ?_⟩
            · intro a w' hR h1
              have e1 : _ = _ := h1
              have hl0 := hR.ints _ _ _ hcell
              go_simp
              rfl
            repeat (first | (refine wpY_move0 rfl rfl (by first | exact runs0 | exact runs1 rfl) Ext.refl rfl rfl rfl ?_; apply Exists.intro; refine ⟨?_, ?_⟩; · (go_simp; rfl)) | (refine wpY_move rfl rfl (by first | exact runs0 | exact runs1 rfl) Ext.refl rfl rfl rfl (fun _ _ _ h _ => h) ?_) | (refine wpY_val rfl rfl (by first | exact runs0 | exact runs1 rfl) Ext.refl rfl ?_; apply Exists.intro; refine ⟨?_, ?_⟩; · (intro a w' hR; intro h1; (first | (have e1 : _ = _ := h1) | skip); intro h2; (first | (have e2 : _ = _ := h2) | skip); go_simp; rfl)) | (refine wpY_val rfl rfl (by first | exact runs0 | exact runs1 rfl) Ext.refl rfl ?_; apply Exists.intro; refine ⟨?_, ?_⟩; · (intro a w' hR; intro h1; (first | (have e1 : _ = _ := h1) | skip); go_simp; rfl)) | (refine wpY_val rfl rfl (by first | exact runs0 | exact runs1 rfl) Ext.refl rfl ?_; apply Exists.intro; refine ⟨?_, ?_⟩; · (intro a w' hR; go_simp; rfl)) | (refine wpY_val rfl rfl (by first | exact runs0 | exact runs1 rfl) Ext.refl rfl ?_; apply Exists.intro; refine ⟨?_, ?_⟩; · (intro a w' hR; intro h1; (first | (have e1 : _ = _ := h1) | skip); intro h2; (first | (have e2 : _ = _ := h2) | skip); intro h3; (first | (have e3 : _ = _ := h3) | skip); go_simp; rfl)) | (refine wpY_skip rfl rfl (by first | exact .inl rfl | exact .inr rfl) ?_))
            refine wpY_eff (fun v _ => v = .int .i64 (m : Int)) (fun w => NR w g ⟨D ++ T, false⟩) rfl (by first | exact runs0 | exact runs1 rfl) rfl (by first | exact mono_eq | exact (fun _ _ _ h k => RB.extS h k) | exact (fun _ _ _ h k => Rd.extV h k) | exact (fun _ _ _ h k => RB.extV h k)) (fun _ _ x y => x.ext y) ?_ ?_
            · intro a w' hR hS h1 K hK
              have e1 : _ = _ := h1
              go_simp
              refine (HN.out w' hS).mono ?_
              rintro e w2 ⟨rfl, q1, q2⟩
              exact hK _ _ (q2.toS (by simp)) q1 rfl
            repeat (first | (refine wpY_move0 rfl rfl (by first | exact runs0 | exact runs1 rfl) Ext.refl rfl rfl rfl ?_; apply Exists.intro; refine ⟨?_, ?_⟩; · (go_simp; rfl)) | (refine wpY_move rfl rfl (by first | exact runs0 | exact runs1 rfl) Ext.refl rfl rfl rfl (fun _ _ _ h _ => h) ?_) | (refine wpY_val rfl rfl (by first | exact runs0 | exact runs1 rfl) Ext.refl rfl ?_; apply Exists.intro; refine ⟨?_, ?_⟩; · (intro a w' hR; intro h1; (first | (have e1 : _ = _ := h1) | skip); intro h2; (first | (have e2 : _ = _ := h2) | skip); go_simp; rfl)) | (refine wpY_val rfl rfl (by first | exact runs0 | exact runs1 rfl) Ext.refl rfl ?_; apply Exists.intro; refine ⟨?_, ?_⟩; · (intro a w' hR; intro h1; (first | (have e1 : _ = _ := h1) | skip); go_simp; rfl)) | (refine wpY_val rfl rfl (by first | exact runs0 | exact runs1 rfl) Ext.refl rfl ?_; apply Exists.intro; refine ⟨?_, ?_⟩; · (intro a w' hR; go_simp; rfl)) | (refine wpY_val rfl rfl (by first | exact runs0 | exact runs1 rfl) Ext.refl rfl ?_; apply Exists.intro; refine ⟨?_, ?_⟩; · (intro a w' hR; intro h1; (first | (have e1 : _ = _ := h1) | skip); intro h2; (first | (have e2 : _ = _ := h2) | skip); intro h3; (first | (have e3 : _ = _ := h3) | skip); go_simp; rfl)) | (refine wpY_skip rfl rfl (by first | exact .inl rfl | exact .inr rfl) ?_))
            refine wpY_val rfl rfl (by first | exact runs0 | exact runs1 rfl) Ext.refl rfl ?_; apply Exists.intro; refine ⟨?_, ?_⟩
            · intro a w' hR h1
              have e1 : _ = _ := h1
              have hl0 := hR.ints _ _ _ hcell
              go_simp
              rfl
            repeat (first | (refine wpY_move0 rfl rfl (by first | exact runs0 | exact runs1 rfl) Ext.refl rfl rfl rfl ?_; apply Exists.intro; refine ⟨?_, ?_⟩; · (go_simp; rfl)) | (refine wpY_move rfl rfl (by first | exact runs0 | exact runs1 rfl) Ext.refl rfl rfl rfl (fun _ _ _ h _ => h) ?_) | (refine wpY_val rfl rfl (by first | exact runs0 | exact runs1 rfl) Ext.refl rfl ?_; apply Exists.intro; refine ⟨?_, ?_⟩; · (intro a w' hR; intro h1; (first | (have e1 : _ = _ := h1) | skip); intro h2; (first | (have e2 : _ = _ := h2) | skip); go_simp; rfl)) | (refine wpY_val rfl rfl (by first | exact runs0 | exact runs1 rfl) Ext.refl rfl ?_; apply Exists.intro; refine ⟨?_, ?_⟩; · (intro a w' hR; intro h1; (first | (have e1 : _ = _ := h1) | skip); go_simp; rfl)) | (refine wpY_val rfl rfl (by first | exact runs0 | exact runs1 rfl) Ext.refl rfl ?_; apply Exists.intro; refine ⟨?_, ?_⟩; · (intro a w' hR; go_simp; rfl)) | (refine wpY_val rfl rfl (by first | exact runs0 | exact runs1 rfl) Ext.refl rfl ?_; apply Exists.intro; refine ⟨?_, ?_⟩; · (intro a w' hR; intro h1; (first | (have e1 : _ = _ := h1) | skip); intro h2; (first | (have e2 : _ = _ := h2) | skip); intro h3; (first | (have e3 : _ = _ := h3) | skip); go_simp; rfl)) | (refine wpY_skip rfl rfl (by first | exact .inl rfl | exact .inr rfl) ?_))
            refine wpY_done ?_
            intro w5 hx hS
            iterate 14 (rintro _ rfl)
            dsimp only [FinV]
            go_simp
            have HX := Lib.hid hx
            have HS := Lib.hid hS
            clear hx hS
            go_wp2
            exact ⟨⟨k + 1, by omega, by go_num, by rw [HD.out]; exact HS.out, HE2.out.andS HX.out (by simp; exact HG.out)⟩, by simp [intOf]; omega⟩
          · rw [if_neg hz0, List.nil_append] at HR
            have hd : decide (0 ≤ z) = false := by simpa using hz0
            clear hz0
            go_wp2
            refine wp_regionY [70] [] Ext (ExtS [g]) (fun w => NR w g ⟨D ++ T, false⟩) (by kernel_rfl) (by rfl) (by rfl) (by kernel_rfl) (by kernel_rfl) (by kernel_rfl) (fun _ _ _ x y => x.trans y) (ExtS.refl _) (fun _ _ x => ExtS.of x) (Ext.refl _).drew (fun _ _ x y => x.ext y) (HR.out) ?_
            repeat (first | (refine wpY_move0 rfl rfl (by first | exact runs0 | exact runs1 rfl) Ext.refl rfl rfl rfl ?_; apply Exists.intro; refine ⟨?_, ?_⟩; · (go_simp; rfl)) | (refine wpY_move rfl rfl (by first | exact runs0 | exact runs1 rfl) Ext.refl rfl rfl rfl (fun _ _ _ h _ => h) ?_) | (refine wpY_val rfl rfl (by first | exact runs0 | exact runs1 rfl) Ext.refl rfl ?_; apply Exists.intro; refine ⟨?_, ?_⟩; · (intro a w' hR; intro h1; (first | (have e1 : _ = _ := h1) | skip); intro h2; (first | (have e2 : _ = _ := h2) | skip); go_simp; rfl)) | (refine wpY_val rfl rfl (by first | exact runs0 | exact runs1 rfl) Ext.refl rfl ?_; apply Exists.intro; refine ⟨?_, ?_⟩; · (intro a w' hR; intro h1; (first | (have e1 : _ = _ := h1) | skip); go_simp; rfl)) | (refine wpY_val rfl rfl (by first | exact runs0 | exact runs1 rfl) Ext.refl rfl ?_; apply Exists.intro; refine ⟨?_, ?_⟩; · (intro a w' hR; go_simp; rfl)) | (refine wpY_val rfl rfl (by first | exact runs0 | exact runs1 rfl) Ext.refl rfl ?_; apply Exists.intro; refine ⟨?_, ?_⟩; · (intro a w' hR; intro h1; (first | (have e1 : _ = _ := h1) | skip); intro h2; (first | (have e2 : _ = _ := h2) | skip); intro h3; (first | (have e3 : _ = _ := h3) | skip); go_simp; rfl)) | (refine wpY_skip rfl rfl (by first | exact .inl rfl | exact .inr rfl) ?_))
            refine wpY_val rfl rfl (by first | exact runs0 | exact runs1 rfl) Ext.refl rfl ?_; apply Exists.intro; refine ⟨?_, ?_⟩
            · intro a w' hR h1
              have e1 : _ = _ := h1
              have hl0 := hR.ints _ _ _ hcell
              go_simp
              rfl
            repeat (first | (refine wpY_move0 rfl rfl (by first | exact runs0 | exact runs1 rfl) Ext.refl rfl rfl rfl ?_; apply Exists.intro; refine ⟨?_, ?_⟩; · (go_simp; rfl)) | (refine wpY_move rfl rfl (by first | exact runs0 | exact runs1 rfl) Ext.refl rfl rfl rfl (fun _ _ _ h _ => h) ?_) | (refine wpY_val rfl rfl (by first | exact runs0 | exact runs1 rfl) Ext.refl rfl ?_; apply Exists.intro; refine ⟨?_, ?_⟩; · (intro a w' hR; intro h1; (first | (have e1 : _ = _ := h1) | skip); intro h2; (first | (have e2 : _ = _ := h2) | skip); go_simp; rfl)) | (refine wpY_val rfl rfl (by first | exact runs0 | exact runs1 rfl) Ext.refl rfl ?_; apply Exists.intro; refine ⟨?_, ?_⟩; · (intro a w' hR; intro h1; (first | (have e1 : _ = _ := h1) | skip); go_simp; rfl)) | (refine wpY_val rfl rfl (by first | exact runs0 | exact runs1 rfl) Ext.refl rfl ?_; apply Exists.intro; refine ⟨?_, ?_⟩; · (intro a w' hR; go_simp; rfl)) | (refine wpY_val rfl rfl (by first | exact runs0 | exact runs1 rfl) Ext.refl rfl ?_; apply Exists.intro; refine ⟨?_, ?_⟩; · (intro a w' hR; intro h1; (first | (have e1 : _ = _ := h1) | skip); intro h2; (first | (have e2 : _ = _ := h2) | skip); intro h3; (first | (have e3 : _ = _ := h3) | skip); go_simp; rfl)) | (refine wpY_skip rfl rfl (by first | exact .inl rfl | exact .inr rfl) ?_))
            refine wpY_skipE rfl (fun _ _ x y => x.ext y) (by first | exact .inl rfl | exact .inr rfl) ?_
            repeat (first | (refine wpY_move0 rfl rfl (by first | exact runs0 | exact runs1 rfl) Ext.refl rfl rfl rfl ?_; apply Exists.intro; refine ⟨?_, ?_⟩; · (go_simp; rfl)) | (refine wpY_move rfl rfl (by first | exact runs0 | exact runs1 rfl) Ext.refl rfl rfl rfl (fun _ _ _ h _ => h) ?_) | (refine wpY_val rfl rfl (by first | exact runs0 | exact runs1 rfl) Ext.refl rfl ?_; apply Exists.intro; refine ⟨?_, ?_⟩; · (intro a w' hR; intro h1; (first | (have e1 : _ = _ := h1) | skip); intro h2; (first | (have e2 : _ = _ := h2) | skip); go_simp; rfl)) | (refine wpY_val rfl rfl (by first | exact runs0 | exact runs1 rfl) Ext.refl rfl ?_; apply Exists.intro; refine ⟨?_, ?_⟩; · (intro a w' hR; intro h1; (first | (have e1 : _ = _ := h1) | skip); go_simp; rfl)) | (refine wpY_val rfl rfl (by first | exact runs0 | exact runs1 rfl) Ext.refl rfl ?_; apply Exists.intro; refine ⟨?_, ?_⟩; · (intro a w' hR; go_simp; rfl)) | (refine wpY_val rfl rfl (by first | exact runs0 | exact runs1 rfl) Ext.refl rfl ?_; apply Exists.intro; refine ⟨?_, ?_⟩; · (intro a w' hR; intro h1; (first | (have e1 : _ = _ := h1) | skip); intro h2; (first | (have e2 : _ = _ := h2) | skip); intro h3; (first | (have e3 : _ = _ := h3) | skip); go_simp; rfl)) | (refine wpY_skip rfl rfl (by first | exact .inl rfl | exact .inr rfl) ?_))
            refine wpY_done ?_
            intro w5 hx hS
            iterate 14 (rintro _ rfl)
            dsimp only [FinV]
            go_simp
            have HX := Lib.hid hx
            have HS := Lib.hid hS
            clear hx hS
            go_wp2
            exact ⟨⟨k + 1, by omega, by go_num, by rw [HD.out]; exact HS.out, HE2.out.andS HX.out (by simp; exact HG.out)⟩, by simp [intOf]; omega⟩
        · obtain rfl : k = zs.length := by omega
          rw [List.drop_length, show catN [] = [] from rfl, List.nil_append] at HR
          have HQ := Lib.hid (text_r g 3000 _ wr HR.out (by dsimp only; omega))
          rw [HTX.out] at HQ
          go_wp2_with (first
            | (go_at_call 23; refine HQ.out.mono ?_; rintro e w5 ⟨rfl, hr5, he5⟩; have HDN := Lib.hid (done_any g _ w5 hr5); rw [if_neg (by simp)] at HDN; have HE5 := Lib.hid he5; clear hr5 he5)
            | (go_at_call 21; refine HDN.out.mono ?_; rintro e w' ⟨rfl, rfl⟩))
          go_ret
          exact ⟨rfl, HE2.out.andG HE5.out HG.out⟩
end Go.Proofs.Ytgojbgjfnjeglaa
