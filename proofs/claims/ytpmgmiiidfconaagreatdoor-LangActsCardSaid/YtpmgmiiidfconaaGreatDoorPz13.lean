/-
  ScrLine, packed: what the claim needs of them.
-/
import Derived.Test.YtpmgmiiidfconaaGreatDoorPz11
import Derived.Test.YtpmgmiiidfconaaGreatDoorPz12
import Derived.Test.YtpmgmiiidfconaaGreatDoorPz03
import Derived.Lib.AppendIntMem
namespace Go.Ox
open Go.RowKit
/-- a string of these bytes -/
abbrev strV (l : List UInt8) : Value := .string ⟨l.toArray⟩
theorem str_add (a b : List UInt8) : (⟨a.toArray⟩ : ByteArray) ++ ⟨b.toArray⟩ = ⟨(a ++ b).toArray⟩ := by
  apply ByteArray.ext
  simp
end Go.Ox
namespace Go.Proofs.YtpmgmiiidfconaaGreatDoor
open Go.RowKit Go.Ox Go.Ox.Gr Go.Ox.Sc Go.Shelf
set_option linter.unusedVariables false
set_option linter.unusedSimpArgs false
/-- the library's table of powers is laid -/
abbrev Tab (w : World) : Prop := Lib.TabIs Tryz.prog w "internal/strconv.uint64pow10" .u64 Lib.pow10Tab
theorem Tab.ext {w w' : World} (h : Tab w) (he : Ext w w') : Tab w' := Lib.tabBelow_of_tabIs h w' he
theorem itoa_any (n : Nat) (hn : n < 9223372036854775808) (w : World) (ht : Tab w) : Calls Tryz.prog 24 #[.int .i64 (n : Int)] w fun e w' => e = .returned (strV (Lib.decDigits n)) ∧ Ext w w' := by
  have h := Any.strconv_Itoa Tryz.itoaL (n : Int) (by omega) (by omega) w ht
  refine h.mono ?_
  rintro e w' ⟨rfl, k, os, rfl⟩
  refine ⟨?_, ?_⟩
  · have : Lib.itoa (n : Int) = Lib.decDigits n := by unfold Lib.itoa; rw [if_neg (by omega)]; rfl
    rw [this]
  · exact GrownW.ext ⟨k, os, rfl⟩
attribute [local irreducible] RE OE
def strZ : Value → Nat
  | .string b => if b.size = 0 then 1 else 0
  | _ => 0
theorem add_str {P : Program} {t : TypeId} (a b : List UInt8) (w : World) (h : a.length + b.length ≤ 9000000000000000000) : (Op.stringOp .add ⟨a.toArray⟩ ⟨b.toArray⟩).run P w = .ok (strV (a ++ b)) w := by
  have hs : ¬ ((((⟨a.toArray⟩ : ByteArray).size + (⟨b.toArray⟩ : ByteArray).size : Nat) : Int) > IntKind.i64.max) := by
    show ¬ (((a.length + b.length : Nat) : Int) > 9223372036854775807)
    omega
  unfold Op.stringOp
  simp only []
  rw [if_neg hs, str_add]
  rfl
theorem dig_one {r : Nat} (h : r < 10) : (⟨#[48, 49, 50, 51, 52, 53, 54, 55, 56, 57]⟩ : ByteArray).extract r (r + 1) = ⟨([UInt8.ofNat (48 + r)] : List UInt8).toArray⟩ := by
  obtain rfl | rfl | rfl | rfl | rfl | rfl | rfl | rfl | rfl | rfl : r = 0 ∨ r = 1 ∨ r = 2 ∨ r = 3 ∨ r = 4 ∨ r = 5 ∨ r = 6 ∨ r = 7 ∨ r = 8 ∨ r = 9 := by omega
  all_goals (apply ByteArray.ext; rfl)
theorem strZ_cons (x : UInt8) (D : List UInt8) : strZ (strV (x :: D)) = 0 := by
  show (if (x :: D).toArray.size = 0 then 1 else 0) = 0
  rw [if_neg (by simp)]
theorem strZ_nil : strZ (strV []) = 1 := rfl
theorem dec_step {m : Nat} (h : ¬ m < 10) : Lib.decDigits m = Lib.decDigits (m / 10) ++ [UInt8.ofNat (48 + m % 10)] := by rw [Lib.decDigits, dif_neg h]
theorem dec_small {m : Nat} (h : m < 10) : Lib.decDigits m = [UInt8.ofNat (48 + m)] := by rw [Lib.decDigits, dif_pos h]
theorem dec_len : ∀ {m : Nat}, m < 9223372036854775808 → (Lib.decDigits m).length ≤ 20 := by
  have h : ∀ (k : Nat) (m : Nat), m < 10 ^ (k + 1) → (Lib.decDigits m).length ≤ k + 1 := by
    intro k
    induction k with
    | zero => intro m hm; rw [dec_small (by omega)]; simp
    | succ k ih =>
      intro m hm
      by_cases hs : m < 10
      · rw [dec_small hs]; simp
      · rw [dec_step hs, List.length_append]
        have := ih (m / 10) (by rw [Nat.pow_succ] at hm; omega)
        simp; omega
  intro m hm
  exact h 19 m (by omega)
/-- one digit more -/
theorem dig_step {n m : Nat} {D : List UInt8} (h : (D = [] ∧ m = n) ∨ (D ≠ [] ∧ ((m = 0 ∧ D = Lib.decDigits n) ∨ (0 < m ∧ Lib.decDigits n = Lib.decDigits m ++ D)))) (hm : 0 < m ∨ D = []) :
    (UInt8.ofNat (48 + m % 10) :: D) ≠ [] ∧ ((m / 10 = 0 ∧ (UInt8.ofNat (48 + m % 10) :: D) = Lib.decDigits n) ∨ (0 < m / 10 ∧ Lib.decDigits n = Lib.decDigits (m / 10) ++ (UInt8.ofNat (48 + m % 10) :: D))) := by
  have e : Lib.decDigits n = Lib.decDigits m ++ D := by
    rcases h with ⟨h1, h2⟩ | ⟨h1, h2 | h2⟩
    · rw [h1, h2, List.append_nil]
    · rcases hm with hm | hm
      · omega
      · exact absurd hm h1
    · exact h2.2
  refine ⟨by simp, ?_⟩
  by_cases hs : m < 10
  · left
    refine ⟨by omega, ?_⟩
    rw [e, dec_small hs, Nat.mod_eq_of_lt hs]
    rfl
  · right
    refine ⟨by omega, ?_⟩
    rw [e, dec_step hs, List.append_assoc]
    rfl
theorem wrap_div (m : Nat) (h : m < 4611686018427387904) : wrap64 ((m : Int) / 10) = ((m / 10 : Nat) : Int) := by
  unfold wrap64
  omega
set_option maxRecDepth 100000 in
set_option maxHeartbeats 2000000 in
theorem digitsR_any (n : Nat) (hn : n < 4611686018427387904) (w : World) : Calls Tryz.prog 20 #[.int .i64 (n : Int)] w fun e w' => e = .returned (strV (Lib.decDigits n)) ∧ w = w' := by
  have HN := Lib.hid hn
  clear hn
  go_enter Tryz.func20, Tryz.ntmps20
  go_wp2
  go_loopw [0, 3] (fun nv sv wr => ∃ (m : Nat) (D : List UInt8), nv = .int .i64 (m : Int) ∧ sv = strV D ∧ D.length + m ≤ n + 1 ∧ m ≤ n ∧ ((D = [] ∧ m = n) ∨ (D ≠ [] ∧ ((m = 0 ∧ D = Lib.decDigits n) ∨ (0 < m ∧ Lib.decDigits n = Lib.decDigits m ++ D)))) ∧ w = wr) (fun nv sv _ => 2 * (intOf nv).toNat + strZ sv)
  case atStart => exact ⟨n, [], rfl, rfl, by simp, Nat.le_refl _, .inl ⟨rfl, rfl⟩, rfl⟩
  case round =>
    obtain ⟨m, D, rfl, rfl, hlen, hmn, hcase, rfl⟩ := hrel
    have HC := Lib.hid hcase
    have HL := Lib.hid hlen
    have HM := Lib.hid hmn
    have HRR := Lib.hid (show m % 10 < 10 from Nat.mod_lt _ (by omega))
    clear hcase hlen hmn
    by_cases hm : 0 < m
    · have q1 : (m : Int) > 0 := by omega
      have HMM := Lib.hid hm
      clear hm
      go_wp2
      case roundEnd =>
        rw [dig_one HRR.out, str_add, wrap_div m (by have := HN.out; have := HM.out; omega)]
        refine ⟨⟨m / 10, UInt8.ofNat (48 + m % 10) :: D, rfl, rfl, by have := HL.out; have := HMM.out; simp; omega, by have := HM.out; omega, .inr (dig_step HC.out (.inl HMM.out)), by trivial⟩, ?_⟩
        show 2 * (intOf (.int .i64 ((m / 10 : Nat) : Int))).toNat + strZ (strV (UInt8.ofNat (48 + m % 10) :: D)) < _
        rw [strZ_cons]
        have := HMM.out
        simp [intOf]
        omega
      case isTrue h9 =>
        exfalso
        have h1 := HL.out
        have h2 := HN.out
        omega
    · obtain rfl : m = 0 := by omega
      clear hm
      cases D with
      | nil =>
        have HN0 := Lib.hid (show n = 0 from by
          rcases HC.out with ⟨h1, h2⟩ | ⟨h1, h2⟩
          · exact h2.symm
          · exact absurd rfl h1)
        go_wp2
        have h48 : (⟨#[48, 49, 50, 51, 52, 53, 54, 55, 56, 57]⟩ : ByteArray).extract 0 1 ++ (⟨#[]⟩ : ByteArray) = ⟨([UInt8.ofNat (48 + 0 % 10)] : List UInt8).toArray⟩ := by
          apply ByteArray.ext
          rfl
        rw [h48]
        refine ⟨⟨0, [UInt8.ofNat (48 + 0 % 10)], rfl, rfl, by simp, by omega, .inr (dig_step HC.out (.inr rfl)), by trivial⟩, ?_⟩
        show 2 * (intOf (.int .i64 0)).toNat + strZ (strV [UInt8.ofNat (48 + 0 % 10)]) < 2 * (intOf (.int .i64 _)).toNat + strZ (strV [])
        rw [strZ_cons, strZ_nil]
        simp [intOf]
      | cons x D =>
        have HE := Lib.hid (show (x :: D) = Lib.decDigits n from by
          rcases HC.out with ⟨h1, h2⟩ | ⟨h1, h2 | h2⟩
          · cases h1
          · exact h2.2
          · exact absurd h2.1 (by omega))
        go_wp2
        go_ret
        rw [← HE.out]
        exact ⟨rfl, rfl⟩
set_option maxRecDepth 100000 in
set_option maxHeartbeats 4000000 in
theorem line_any (wd : List UInt8) (u : Value) (l : List Int) (w : World) (hu : RE w u l) (hl : l.length ≤ 100000) (hw : wd.length ≤ 100) (hok : ∀ x ∈ l, 0 ≤ x ∧ x < 9223372036854775808) (ht : Tab w) :
    Calls Tryz.prog 63 #[strV wd, u] w fun e w' => e = .returned (strV (wd ++ l.flatMap fun x => 32 :: Lib.decDigits x.toNat)) ∧ Ext w w' := by
  obtain ⟨A, c, rfl⟩ := hu.form
  have HU := Lib.hid hu
  have HL := Lib.hid hl
  have HW := Lib.hid hw
  have HT := Lib.hid ht
  have HOK := Lib.hid (fun (k : Nat) (h : k < l.length) => hok l[k] (List.getElem_mem h))
  have HLN := Lib.hid (show ∀ k, (wd ++ (l.take k).flatMap fun x => 32 :: Lib.decDigits x.toNat).length ≤ 10000000 from fun k => by
    have h1 := flat_le (fun (x : Int) => 32 :: Lib.decDigits x.toNat) 21 (l.take k) (fun x hx => by
      have h := hok x (List.mem_of_mem_take hx)
      have := dec_len (m := x.toNat) (by omega)
      simp; omega)
    have h2 : (l.take k).length * 21 ≤ 100000 * 21 := Nat.mul_le_mul_right _ (by rw [List.length_take]; omega)
    rw [List.length_append]; omega)
  clear hu hl hw hok ht
  go_enter Tryz.func63, Tryz.ntmps63
  go_wp2
  go_loopw [0, 9] (fun sv iv wr => ∃ k : Nat, k ≤ l.length ∧ iv = .int .i64 (k : Int) ∧ sv = strV (wd ++ (l.take k).flatMap fun x => 32 :: Lib.decDigits x.toNat) ∧ Ext w wr) (fun _ iv _ => l.length - (intOf iv).toNat)
  case atStart => exact ⟨0, Nat.zero_le _, rfl, by simp, Ext.refl _⟩
  case round =>
    obtain ⟨k, hk, rfl, rfl, hext⟩ := hrel
    have HE := Lib.hid hext
    have hk1 : k ≤ 100000 := by have := HL.out; omega
    by_cases hlt : k < l.length
    · have q1 : (k : Int) < (l.length : Int) := by omega
      have q0 : 0 ≤ (k : Int) := by omega
      have q1n : k < l.length := hlt
      have HLT := Lib.hid hlt
      obtain ⟨bI, oI, rfl, z0⟩ := ri1 (RE.ext HU.out hext) hlt
      have HK := Lib.hid (HOK.out k hlt)
      have HLK := Lib.hid (HLN.out k)
      have HS := Lib.hid (show (wd ++ (l.take (k + 1)).flatMap fun x => 32 :: Lib.decDigits x.toNat) = (wd ++ (l.take k).flatMap fun x => 32 :: Lib.decDigits x.toNat) ++ (32 :: Lib.decDigits l[k].toNat) from by
        rw [List.take_succ_eq_append_getElem hlt, List.flatMap_append, List.append_assoc]
        simp
        try rfl)
      generalize l[k] = x at *
      obtain ⟨y, hy⟩ : ∃ y : Nat, x = (y : Int) := ⟨x.toNat, by have := HK.out.1; omega⟩
      subst hy
      rw [show ((y : Int)).toNat = y from rfl] at HS
      generalize (wd ++ (l.take k).flatMap fun x => 32 :: Lib.decDigits x.toNat) = lk at *
      have HI := Lib.hid (itoa_any y (by have := HK.out.2; omega) _ (HT.out.ext hext))
      have HDL := Lib.hid (dec_len (m := y) (by have := HK.out.2; omega))
      generalize Lib.decDigits y = dy at *
      have ha1 := fun w => add_str (P := Tryz.prog) (t := 9) [32] dy w (by have := HDL.out; simp; omega)
      have ha2 := fun w => add_str (P := Tryz.prog) (t := 9) lk (32 :: dy) w (by have := HDL.out; have := HLK.out; simp; omega)
      clear hext hlt hk
      go_wp2_with fail
      refine HI.out.mono ?_
      rintro e w1 ⟨rfl, he1⟩
      have HX := Lib.hid (HE.out.trans he1)
      clear he1 z0
      go_wp2
      exact ⟨⟨k + 1, HLT.out, by go_num, by rw [HS.out], HX.out⟩, by have := HLT.out; simp [intOf]; omega⟩
    · obtain rfl : k = l.length := by omega
      have q1 : ¬ (l.length : Int) < (l.length : Int) := by omega
      rw [List.take_length]
      clear hext hlt hk
      go_wp2
      go_ret
      exact ⟨rfl, HE.out⟩
/-- an act's line -/
def actS (a : Sc.Act) : List UInt8 :=
  if actOk a = true then
    if a.1.1 = 1 then [112, 105, 99, 107] ++ ([a.1.2.1, a.1.2.2.1].flatMap fun x => 32 :: Lib.decDigits x.toNat)
    else if a.1.1 = 2 then [115, 116, 111, 112] ++ ([a.1.2.1].flatMap fun x => 32 :: Lib.decDigits x.toNat)
    else if a.1.1 = 3 then [99, 114, 97, 115, 104] ++ (a.2.flatMap fun x => 32 :: Lib.decDigits x.toNat)
    else if a.1.1 = 4 then [102, 108, 105, 112] ++ ([a.1.2.2.1, a.1.2.1, a.1.2.2.2.1, a.1.2.2.2.2].flatMap fun x => 32 :: Lib.decDigits x.toNat)
    else [114, 117, 110] ++ ([a.1.2.1, a.1.2.2.1].flatMap fun x => 32 :: Lib.decDigits x.toNat)
  else []
theorem actOk_nums {k n a b t : Int} {ks : List Int} (h : actOk ((k, n, a, b, t), ks) = true) : (1 ≤ k ∧ k ≤ 5) ∧ (0 ≤ n ∧ n < 9223372036854775808) ∧ (0 ≤ a ∧ a < 9223372036854775808) ∧ (0 ≤ b ∧ b < 9223372036854775808) ∧ (0 ≤ t ∧ t < 9223372036854775808) ∧ ks.length ≤ 256 ∧ ∀ x ∈ ks, 0 ≤ x ∧ x < 9223372036854775808 := by
  unfold actOk inR at h
  simp only [Bool.and_eq_true, decide_eq_true_eq, List.all_eq_true] at h
  obtain ⟨⟨⟨⟨⟨⟨⟨h1, h2⟩, h3⟩, h4⟩, h5⟩, h6⟩, h7⟩, h8⟩ := h
  exact ⟨⟨h1, h2⟩, by omega, by omega, by omega, by omega, h7, fun x hx => by have := h8 x hx; omega⟩
theorem sact_ints (l : List Int) (w : World) (cs : Array Value) (n : Nat) (hn : l.length = n) (hm : n ≤ 1000000) (h : cs.toList = eV l) : RE (w.alloc (.cells cs 3)) (.slice (some ⟨w.heap.size, 0, none⟩) n n) l := RE.lit w cs 3 n l hn hm h
set_option maxRecDepth 100000 in
set_option maxHeartbeats 4000000 in
theorem sAct_any (k n a b t : Int) (u : Value) (ks : List Int) (w : World) (hu : RE w u ks) (hl : ks.length ≤ 1000000) (ht : Tab w) :
    Calls Tryz.prog 29 #[actAg k n a b t u] w fun e w' => e = .returned (strV (actS ((k, n, a, b, t), ks))) ∧ Ext w w' := by
  have HX := Lib.hid ((Ext.refl w).alloc (actCs k n a b t u))
  have HB := Lib.hid (Bx6.new w 24 (.int .i64 k) (.int .i64 n) (.int .i64 a) (.int .i64 b) (.int .i64 t) u)
  have HU := Lib.hid (RE.ext hu HX.out)
  have HT := Lib.hid (ht.ext HX.out)
  have HC := Lib.hid (fun w h => act_any k n a b t u ks w h hl)
  have HN := Lib.hid (fun h => @actOk_nums k n a b t ks h)
  have HR := Lib.hid (show actS ((k, n, a, b, t), ks) = if actOk ((k, n, a, b, t), ks) = true then
    if k = 1 then [112, 105, 99, 107] ++ ([n, a].flatMap fun x => 32 :: Lib.decDigits x.toNat)
    else if k = 2 then [115, 116, 111, 112] ++ ([n].flatMap fun x => 32 :: Lib.decDigits x.toNat)
    else if k = 3 then [99, 114, 97, 115, 104] ++ (ks.flatMap fun x => 32 :: Lib.decDigits x.toNat)
    else if k = 4 then [102, 108, 105, 112] ++ ([a, n, b, t].flatMap fun x => 32 :: Lib.decDigits x.toNat)
    else [114, 117, 110] ++ ([n, a].flatMap fun x => 32 :: Lib.decDigits x.toNat)
  else [] from rfl)
  generalize actS ((k, n, a, b, t), ks) = res at *
  generalize actOk ((k, n, a, b, t), ks) = ok at *
  obtain ⟨A, c, rfl⟩ := hu.form
  clear hu hl ht
  go_enter Tryz.func29, Tryz.ntmps29
  go_upto_region 1 with fail
  generalize w.heap.size = p at *
  generalize w.alloc (actCs k n a b t (.slice A ks.length c)) = w0 at *
  obtain ⟨c0, c1, c2, c3, c4, c5⟩ := HB.out.at_
  go_wp2_with fail
  refine (HC.out _ HU.out).mono ?_
  rintro e w1 ⟨rfl, he1⟩
  have HX1 := Lib.hid (HX.out.trans he1)
  have HT1 := Lib.hid (HT.out.ext he1)
  have HB1 := Lib.hid (HB.out.ext he1)
  have HU1 := Lib.hid (RE.ext HU.out he1)
  clear he1 c0 c1 c2 c3 c4 c5
  obtain ⟨c0, c1, c2, c3, c4, c5⟩ := HB1.out.at_
  cases ok with
  | false =>
    obtain rfl : res = [] := HR.out
    go_wp2
    go_ret
    exact ⟨rfl, HX1.out⟩
  | true =>
    obtain ⟨hk, hn, ha, hb, htt, hks, hok⟩ := HN.out rfl
    have HNN := Lib.hid (show (∀ x ∈ [n, a], 0 ≤ x ∧ x < 9223372036854775808) ∧ (∀ x ∈ [n], 0 ≤ x ∧ x < 9223372036854775808) ∧ ∀ x ∈ [a, n, b, t], 0 ≤ x ∧ x < 9223372036854775808 from ⟨fun x hx => by simp at hx; rcases hx with rfl | rfl <;> assumption, fun x hx => by simp at hx; subst hx; assumption, fun x hx => by simp at hx; rcases hx with rfl | rfl | rfl | rfl <;> assumption⟩)
    have HKS := Lib.hid (And.intro hks hok)
    rw [if_pos rfl] at HR
    clear hn ha hb htt hks hok
    by_cases k1 : k = 1
    · rw [if_pos k1] at HR
      subst k1
      have hal := (Ext.refl w1).alloc (.cells #[.int .i64 n, .int .i64 a] 3)
      have HCL := Lib.hid (line_any [112, 105, 99, 107] (.slice (some ⟨w1.heap.size, 0, none⟩) 2 2) [n, a] _ (sact_ints [n, a] w1 #[.int .i64 n, .int .i64 a] 2 rfl (by omega) rfl) (by simp) (by simp) HNN.out.1 (HT1.out.ext hal))
      rw [← HR.out] at HCL
      have HX2 := Lib.hid (HX1.out.trans hal)
      clear hal hk
      go_wp2_with fail
      refine HCL.out.mono ?_
      rintro e w2 ⟨rfl, he2⟩
      go_wp2
      go_ret
      exact ⟨rfl, HX2.out.trans he2⟩
    rw [if_neg k1] at HR
    by_cases k2 : k = 2
    · rw [if_pos k2] at HR
      subst k2
      have hal := (Ext.refl w1).alloc (.cells #[.int .i64 n] 3)
      have HCL := Lib.hid (line_any [115, 116, 111, 112] (.slice (some ⟨w1.heap.size, 0, none⟩) 1 1) [n] _ (sact_ints [n] w1 #[.int .i64 n] 1 rfl (by omega) rfl) (by simp) (by simp) HNN.out.2.1 (HT1.out.ext hal))
      rw [← HR.out] at HCL
      have HX2 := Lib.hid (HX1.out.trans hal)
      clear hal hk k1
      go_wp2_with fail
      refine HCL.out.mono ?_
      rintro e w2 ⟨rfl, he2⟩
      go_wp2
      go_ret
      exact ⟨rfl, HX2.out.trans he2⟩
    rw [if_neg k2] at HR
    by_cases k3 : k = 3
    · rw [if_pos k3] at HR
      subst k3
      have HCL := Lib.hid (line_any [99, 114, 97, 115, 104] (.slice A ks.length c) ks _ HU1.out (by have := HKS.out.1; omega) (by simp) HKS.out.2 HT1.out)
      rw [← HR.out] at HCL
      clear hk k1 k2
      go_wp2_with fail
      refine HCL.out.mono ?_
      rintro e w2 ⟨rfl, he2⟩
      go_wp2
      go_ret
      exact ⟨rfl, HX1.out.trans he2⟩
    rw [if_neg k3] at HR
    by_cases k4 : k = 4
    · rw [if_pos k4] at HR
      subst k4
      have hal := (Ext.refl w1).alloc (.cells #[.int .i64 a, .int .i64 n, .int .i64 b, .int .i64 t] 3)
      have HCL := Lib.hid (line_any [102, 108, 105, 112] (.slice (some ⟨w1.heap.size, 0, none⟩) 4 4) [a, n, b, t] _ (sact_ints [a, n, b, t] w1 #[.int .i64 a, .int .i64 n, .int .i64 b, .int .i64 t] 4 rfl (by omega) rfl) (by simp) (by simp) HNN.out.2.2 (HT1.out.ext hal))
      rw [← HR.out] at HCL
      have HX2 := Lib.hid (HX1.out.trans hal)
      clear hal hk k1 k2 k3
      go_wp2_with fail
      refine HCL.out.mono ?_
      rintro e w2 ⟨rfl, he2⟩
      go_wp2
      go_ret
      exact ⟨rfl, HX2.out.trans he2⟩
    rw [if_neg k4] at HR
    have hal := (Ext.refl w1).alloc (.cells #[.int .i64 n, .int .i64 a] 3)
    have HCL := Lib.hid (line_any [114, 117, 110] (.slice (some ⟨w1.heap.size, 0, none⟩) 2 2) [n, a] _ (sact_ints [n, a] w1 #[.int .i64 n, .int .i64 a] 2 rfl (by omega) rfl) (by simp) (by simp) HNN.out.1 (HT1.out.ext hal))
    rw [← HR.out] at HCL
    have HX2 := Lib.hid (HX1.out.trans hal)
    clear hal hk
    go_wp2_with fail
    refine HCL.out.mono ?_
    rintro e w2 ⟨rfl, he2⟩
    go_wp2
    go_ret
    exact ⟨rfl, HX2.out.trans he2⟩
end Go.Proofs.YtpmgmiiidfconaaGreatDoor
