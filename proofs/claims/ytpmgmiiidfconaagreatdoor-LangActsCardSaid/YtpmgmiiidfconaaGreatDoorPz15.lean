/-
  ShelfS, LaWord, LaWordR, packed: what the claim needs of them.
-/
import Derived.Shelf.SlGeneric
import Derived.Shelf.Strings.Cut
import Derived.Ground.NamesProg
import Derived.Shelf.Strings.FieldsFuncAny
import Derived.Shelf.Strings.Split
import Derived.Test.YtpmgmiiidfconaaGreatDoorProg
import Derived.Test.YtpmgmiiidfconaaGreatDoorPz14
namespace Go.Proofs.YtpmgmiiidfconaaGreatDoor
open Go.Shelf Go.Proofs
def Tryz.cutL_ren : Go.Shelf.Ren := ⟨fun | 145 => 34 | 220 => 70 | 219 => 102 | 217 => 129 | 225 => 130 | 224 => 131 | 267 => 132 | 266 => 152 | 314 => 153 | n => n, fun | 9 => 9 | 4 => 4 | 59 => 90 | 3 => 3 | 5 => 5 | 46 => 177 | 146 => 189 | 51 => 182 | n => n, fun | 1 => 2 | n => n⟩
theorem Tryz.cutL : Go.Proofs.Lays.n145 Tryz.prog Tryz.cutL_ren := {
  mixed := by kernel_rfl
  f145 := Tryz.func34.trans (congrArg some (by kernel_rfl))
  f217 := Tryz.func129.trans (congrArg some (by kernel_rfl))
  f219 := Tryz.func102.trans (congrArg some (by kernel_rfl))
  f220 := Tryz.func70.trans (congrArg some (by kernel_rfl))
  f224 := Tryz.func131.trans (congrArg some (by kernel_rfl))
  f225 := Tryz.func130.trans (congrArg some (by kernel_rfl))
  f266 := Tryz.func152.trans (congrArg some (by kernel_rfl))
  f267 := Tryz.func132.trans (congrArg some (by kernel_rfl))
  f314 := Tryz.func153.trans (congrArg some (by kernel_rfl))
  t3 := Tryz.underlying3
  a3 := Tryz.isAgg3
  z3 := Tryz.sizeOf3
  v3 := Tryz.zeroValue3
  t4 := Tryz.underlying4
  a4 := Tryz.isAgg4
  z4 := Tryz.sizeOf4
  v4 := Tryz.zeroValue4
  t5 := Tryz.underlying5
  a5 := Tryz.isAgg5
  z5 := Tryz.sizeOf5
  v5 := Tryz.zeroValue5
  t9 := Tryz.underlying9
  a9 := Tryz.isAgg9
  z9 := Tryz.sizeOf9
  v9 := Tryz.zeroValue9
  t46 := Tryz.underlying177
  a46 := Tryz.isAgg177
  z46 := Tryz.sizeOf177
  v46 := Tryz.zeroValue177
  t51 := Tryz.underlying182
  a51 := Tryz.isAgg182
  z51 := Tryz.sizeOf182
  v51 := Tryz.zeroValue182
  t59 := Tryz.underlying90
  a59 := Tryz.isAgg90
  z59 := Tryz.sizeOf90
  v59 := Tryz.zeroValue90
  t146 := Tryz.underlying189
  a146 := Tryz.isAgg189
  z146 := Tryz.sizeOf189
  v146 := Tryz.zeroValue189
  g1 := by kernel_rfl }
def Tryz.fieldsL_ren : Go.Shelf.Ren := ⟨fun | 229 => 35 | n => n, fun | 9 => 9 | 40 => 93 | 31 => 29 | 152 => 122 | 3 => 3 | 0 => 0 | 4 => 4 | 21 => 21 | 154 => 124 | n => n, fun | n => n⟩
theorem Tryz.fieldsL : Go.Proofs.Lays.n229 Tryz.prog Tryz.fieldsL_ren := {
  mixed := by kernel_rfl
  f229 := Tryz.func35.trans (congrArg some (by kernel_rfl))
  t0 := Tryz.underlying0
  a0 := Tryz.isAgg0
  z0 := Tryz.sizeOf0
  v0 := Tryz.zeroValue0
  t3 := Tryz.underlying3
  a3 := Tryz.isAgg3
  z3 := Tryz.sizeOf3
  v3 := Tryz.zeroValue3
  t4 := Tryz.underlying4
  a4 := Tryz.isAgg4
  z4 := Tryz.sizeOf4
  v4 := Tryz.zeroValue4
  t9 := Tryz.underlying9
  a9 := Tryz.isAgg9
  z9 := Tryz.sizeOf9
  v9 := Tryz.zeroValue9
  t21 := Tryz.underlying21
  a21 := Tryz.isAgg21
  z21 := Tryz.sizeOf21
  v21 := Tryz.zeroValue21
  t31 := Tryz.underlying29
  a31 := Tryz.isAgg29
  z31 := Tryz.sizeOf29
  v31 := Tryz.zeroValue29
  t40 := Tryz.underlying93
  a40 := Tryz.isAgg93
  z40 := Tryz.sizeOf93
  v40 := Tryz.zeroValue93
  t152 := Tryz.underlying122
  a152 := Tryz.isAgg122
  z152 := Tryz.sizeOf122
  v152 := Tryz.zeroValue122
  t154 := Tryz.underlying124
  a154 := Tryz.isAgg124
  z154 := Tryz.sizeOf124
  v154 := Tryz.zeroValue124 }
def Tryz.splitL_ren : Go.Shelf.Ren := ⟨fun | 146 => 32 | 221 => 64 | 268 => 95 | 138 => 96 | 143 => 97 | 195 => 123 | 197 => 124 | 218 => 125 | 219 => 102 | 260 => 149 | 217 => 129 | 225 => 130 | 224 => 131 | 267 => 132 | 266 => 152 | 314 => 153 | n => n, fun | 9 => 9 | 31 => 29 | 3 => 3 | 4 => 4 | 0 => 0 | 105 => 171 | 21 => 21 | 5 => 5 | 46 => 177 | 119 => 199 | 139 => 202 | 138 => 201 | 146 => 189 | 51 => 182 | n => n, fun | 1 => 2 | 3 => 4 | 4 => 5 | n => n⟩
theorem Tryz.splitL : Go.Proofs.Lays.n146 Tryz.prog Tryz.splitL_ren := {
  mixed := by kernel_rfl
  f138 := Tryz.func96.trans (congrArg some (by kernel_rfl))
  f143 := Tryz.func97.trans (congrArg some (by kernel_rfl))
  f146 := Tryz.func32.trans (congrArg some (by kernel_rfl))
  f195 := Tryz.func123.trans (congrArg some (by kernel_rfl))
  f197 := Tryz.func124.trans (congrArg some (by kernel_rfl))
  f217 := Tryz.func129.trans (congrArg some (by kernel_rfl))
  f218 := Tryz.func125.trans (congrArg some (by kernel_rfl))
  f219 := Tryz.func102.trans (congrArg some (by kernel_rfl))
  f221 := Tryz.func64.trans (congrArg some (by kernel_rfl))
  f224 := Tryz.func131.trans (congrArg some (by kernel_rfl))
  f225 := Tryz.func130.trans (congrArg some (by kernel_rfl))
  f260 := Tryz.func149.trans (congrArg some (by kernel_rfl))
  f266 := Tryz.func152.trans (congrArg some (by kernel_rfl))
  f267 := Tryz.func132.trans (congrArg some (by kernel_rfl))
  f268 := Tryz.func95.trans (congrArg some (by kernel_rfl))
  f314 := Tryz.func153.trans (congrArg some (by kernel_rfl))
  t0 := Tryz.underlying0
  a0 := Tryz.isAgg0
  z0 := Tryz.sizeOf0
  v0 := Tryz.zeroValue0
  t3 := Tryz.underlying3
  a3 := Tryz.isAgg3
  z3 := Tryz.sizeOf3
  v3 := Tryz.zeroValue3
  t4 := Tryz.underlying4
  a4 := Tryz.isAgg4
  z4 := Tryz.sizeOf4
  v4 := Tryz.zeroValue4
  t5 := Tryz.underlying5
  a5 := Tryz.isAgg5
  z5 := Tryz.sizeOf5
  v5 := Tryz.zeroValue5
  t9 := Tryz.underlying9
  a9 := Tryz.isAgg9
  z9 := Tryz.sizeOf9
  v9 := Tryz.zeroValue9
  t21 := Tryz.underlying21
  a21 := Tryz.isAgg21
  z21 := Tryz.sizeOf21
  v21 := Tryz.zeroValue21
  t31 := Tryz.underlying29
  a31 := Tryz.isAgg29
  z31 := Tryz.sizeOf29
  v31 := Tryz.zeroValue29
  t46 := Tryz.underlying177
  a46 := Tryz.isAgg177
  z46 := Tryz.sizeOf177
  v46 := Tryz.zeroValue177
  t51 := Tryz.underlying182
  a51 := Tryz.isAgg182
  z51 := Tryz.sizeOf182
  v51 := Tryz.zeroValue182
  t105 := Tryz.underlying171
  a105 := Tryz.isAgg171
  z105 := Tryz.sizeOf171
  v105 := Tryz.zeroValue171
  t119 := Tryz.underlying199
  a119 := Tryz.isAgg199
  z119 := Tryz.sizeOf199
  t138 := Tryz.underlying201
  a138 := Tryz.isAgg201
  z138 := Tryz.sizeOf201
  v138 := Tryz.zeroValue201
  t139 := Tryz.underlying202
  a139 := Tryz.isAgg202
  z139 := Tryz.sizeOf202
  v139 := Tryz.zeroValue202
  t146 := Tryz.underlying189
  a146 := Tryz.isAgg189
  z146 := Tryz.sizeOf189
  v146 := Tryz.zeroValue189
  g1 := by kernel_rfl
  g3 := by kernel_rfl
  g4 := by kernel_rfl }
end Go.Proofs.YtpmgmiiidfconaaGreatDoor
set_option linter.unusedVariables false
set_option linter.unusedSimpArgs false
namespace Go.Ox.La
open Go Go.Lib
theorem cut35 : ∀ (l : List UInt8), (Lib.cut l [35]).1 = head35 l
  | [] => rfl
  | c :: l => by
    have ih := cut35 l
    unfold Lib.cut at ih ⊢
    unfold head35 at ih ⊢
    have hg := Lib.index_ge l [35]
    by_cases h : c = 35
    · subst h
      have e : Lib.index (35 :: l) [35] = 0 := by
        unfold Lib.index
        rw [if_pos (by simp [List.isPrefixOf])]
      rw [e, if_pos (by omega), List.takeWhile_cons_of_neg (by decide)]
      rfl
    · have hc : c.toNat ≠ 35 := fun e => h (UInt8.toNat_inj.1 e)
      have hp : ([35] : List UInt8).isPrefixOf (c :: l) = false := by
        simp [List.isPrefixOf]
        intro e; exact h e.symm
      rw [List.takeWhile_cons_of_pos (by simpa using hc)]
      have e : Lib.index (c :: l) [35] = if Lib.index l [35] = -1 then -1 else Lib.index l [35] + 1 := by
        rw [Lib.index]
        rw [if_neg (by rw [hp]; simp)]
        by_cases h2 : Lib.index l [35] = -1 <;> simp [h2]
      by_cases h2 : Lib.index l [35] = -1
      · rw [e, if_pos h2, if_neg (by omega)]
        rw [h2, if_neg (by omega)] at ih
        exact congrArg (c :: ·) ih
      · rw [e, if_neg h2, if_pos (by omega)]
        rw [if_pos (by omega)] at ih
        simp only at ih ⊢
        rw [show (Lib.index l [35] + 1).toNat = (Lib.index l [35]).toNat + 1 by omega, List.take_succ_cons, ih]
theorem splitF_len : ∀ (s : List UInt8) (acc : W), (splitF s acc).length ≤ s.length + 1
  | [], acc => by unfold splitF flush; split <;> simp
  | c :: s, acc => by
    unfold splitF
    have h1 := splitF_len s []
    have h2 := splitF_len s (acc ++ [c])
    split
    · rw [List.length_append, List.length_cons]
      have : (flush acc).length ≤ 1 := by unfold flush; split <;> simp
      omega
    · rw [List.length_cons]; omega
theorem head35_len (s : List UInt8) : (head35 s).length ≤ s.length := by
  have := List.takeWhile_append_dropWhile (p := fun c : UInt8 => c.toNat != 35) (l := s)
  have h2 := congrArg List.length this
  rw [List.length_append] at h2
  unfold head35
  omega
theorem words_len (s : List UInt8) : (wordsL s).length ≤ s.length + 1 := by
  unfold wordsL
  rw [splitW_eq]
  have := splitF_len (head35 s) []
  have := head35_len s
  omega
end Go.Ox.La
namespace Go.Proofs.YtpmgmiiidfconaaGreatDoor
open Go.RowKit Go.Ox Go.Ox.Gr Go.Ox.Sc Go.Ox.La Go.Shelf
/-- the library's bound is laid: some number -/
def MaxL (w : World) : Prop := ∃ m : Int, w.cell? ⟨2, 0, none⟩ = some (.int .i64 m)
theorem MaxL.ext {w w' : World} (h : MaxL w) (he : Ext w w') : MaxL w' := by
  obtain ⟨m, h⟩ := h
  exact ⟨m, he.cell h⟩
set_option maxRecDepth 100000 in
set_option maxHeartbeats 1000000 in
theorem blank_any (r : Nat) (w : World) : Calls Tryz.prog 36 #[.int .i32 (r : Int)] w fun e w' => e = .returned (.bool (blankR r)) ∧ ∃ q, w' = w.drewN q := by
  have HR := Lib.hid (show blankR r = (r == 32 || (r == 9 || (r == 13 || r == 10))) from rfl)
  generalize blankR r = B at *
  go_enter Tryz.func36, Tryz.ntmps36
  by_cases h1 : r = 32
  · have r1 : (r : Int) = 32 := by omega
    have HB := Lib.hid (show B = true from by rw [HR.out, h1]; rfl)
    clear h1
    go_wp2
    go_ret
    exact ⟨by rw [HB.out]; rfl, 0, rfl⟩
  have r1 : ¬ (r : Int) = 32 := by omega
  by_cases h2 : r = 9
  · have r2 : (r : Int) = 9 := by omega
    have HB := Lib.hid (show B = true from by rw [HR.out, h2]; rfl)
    clear h1 h2
    go_wp2
    go_ret
    exact ⟨by rw [HB.out]; rfl, 0, rfl⟩
  have r2 : ¬ (r : Int) = 9 := by omega
  by_cases h3 : r = 13
  · have r3 : (r : Int) = 13 := by omega
    have HB := Lib.hid (show B = true from by rw [HR.out, h3]; rfl)
    clear h1 h2 h3
    go_wp2
    go_ret
    exact ⟨by rw [HB.out]; rfl, 0, rfl⟩
  have r3 : ¬ (r : Int) = 13 := by omega
  by_cases h4 : r = 10
  · have r4 : (r : Int) = 10 := by omega
    have HB := Lib.hid (show B = true from by rw [HR.out, h4]; rfl)
    clear h1 h2 h3 h4
    go_wp2
    go_ret
    exact ⟨by rw [HB.out]; rfl, 0, rfl⟩
  have r4 : ¬ (r : Int) = 10 := by omega
  have HB := Lib.hid (show B = false from by rw [HR.out]; simp [h1, h2, h3, h4])
  have b1 : ((r : Int) == 32) = false := by simpa using r1
  have b2 : ((r : Int) == 9) = false := by simpa using r2
  have b3 : ((r : Int) == 13) = false := by simpa using r3
  have b4 : ((r : Int) == 10) = false := by simpa using r4
  clear h1 h2 h3 h4
  go_wp2
  go_ret
  exact ⟨by rw [HB.out]; rfl, 0, rfl⟩
theorem egBlank : ∀ args w, (callFunc 36 args).run Tryz.prog w = .ok (.enter 36 args) w := enters_of Tryz.func36 (by kernel_rfl) rfl
theorem eV_strs : ∀ (l : List W), (l.map fun x => (⟨x.toArray⟩ : ByteArray)).map Value.string = eV l
  | [] => rfl
  | x :: l => by
    have := eV_strs l
    rw [List.map_cons, List.map_cons, this]
    rfl
theorem cut_call (l : W) (w : World) (hl : l.length ≤ 1000000) (hm : MaxL w) : Calls Tryz.prog 34 #[strV l, .string ⟨#[35]⟩] w fun e w' => ∃ b c, e = .returned (.tuple #[strV (head35 l), b, c]) ∧ Ext w w' := by
  obtain ⟨m, hm⟩ := hm
  refine (Any.strings_Cut Tryz.cutL ⟨l.toArray⟩ ⟨#[35]⟩ m w (by simp [ByteArray.size]; omega) hm).mono ?_
  rintro e w' ⟨rfl, n, rfl⟩
  refine ⟨.string ⟨(Lib.cut l [35]).2.1.toArray⟩, .bool (Lib.cut l [35]).2.2, ?_, (Ext.refl w).drewN n⟩
  rw [← cut35 l]
  try rfl
theorem fields_call (x : W) (w : World) (hx : x.length ≤ 1000000) : Calls Tryz.prog 35 #[strV x, .func (.func 36) #[] #[]] w fun e w' => ∃ u, e = .returned u ∧ OE 9 w.heap.size w' u (splitF x []) ∧ Ext w w' := by
  refine (Any.strings_FieldsFunc Tryz.fieldsL 36 #[] egBlank blankR ⟨x.toArray⟩ w (by simp [ByteArray.size]; omega) (fun W' r _ => blank_any r W') (by kernel_rfl) (by kernel_rfl)).mono ?_
  rintro e w' ⟨A, rfl, _, ho, hb⟩
  have hlen : (Lib.goFieldsP blankR ⟨x.toArray⟩).length = (splitF x []).length := by rw [fields_is x, List.length_map]
  refine ⟨_, rfl, ?_, hb⟩
  rw [hlen] at ho ⊢
  rw [fields_is x, eV_strs] at ho
  exact ho
set_option maxRecDepth 100000 in
set_option maxHeartbeats 1000000 in
theorem words_any (l : W) (w : World) (hl : l.length ≤ 1000000) (hm : MaxL w) : Calls Tryz.prog 14 #[strV l] w fun e w' => ∃ u, e = .returned u ∧ OE 9 w.heap.size w' u (wordsL l) ∧ Ext w w' := by
  have HC := Lib.hid (cut_call l w hl hm)
  have HW := Lib.hid (show wordsL l = splitF (head35 l) [] from splitW_eq l [])
  have HF := Lib.hid (fun W => fields_call (head35 l) W (Nat.le_trans (head35_len l) hl))
  clear hl hm
  generalize head35 l = x at *
  go_enter Tryz.func14, Tryz.ntmps14
  go_wp2_with fail
  refine HC.out.mono ?_
  rintro e w1 ⟨b, c, rfl, he⟩
  have HE := Lib.hid he
  clear he
  go_wp2_with fail
  refine (HF.out w1).mono ?_
  rintro e w2 ⟨u, rfl, ho, he⟩
  have HO := Lib.hid (show OE 9 w.heap.size w2 u (splitF x []) from ho.low HE.out.size)
  have HE := Lib.hid (HE.out.trans he)
  clear ho he
  go_wp2
  go_ret
  exact ⟨_, rfl, by rw [HW.out]; exact HO.out, HE.out⟩
end Go.Proofs.YtpmgmiiidfconaaGreatDoor
set_option linter.unusedVariables false
set_option linter.unusedSimpArgs false
namespace Go.Ox.La
open Go Go.Lib
theorem splitW_c {l : W} {i : Nat} (h : i < l.length) (acc : W) : splitW (l.drop i) acc = if l[i].toNat = 35 then flush acc else if blankB l[i] = true then flush acc ++ splitW (l.drop (i + 1)) [] else splitW (l.drop (i + 1)) (acc ++ [l[i]]) := by
  rw [List.drop_eq_getElem_cons h]
  rfl
end Go.Ox.La
namespace Go.Proofs.YtpmgmiiidfconaaGreatDoor
open Go.RowKit Go.Ox Go.Ox.Gr Go.Ox.Sc Go.Ox.La Go.Shelf
theorem ext1 (l : W) (i : Nat) (h : i < l.length) : (⟨l.toArray⟩ : ByteArray).extract i (i + 1) = ⟨([l[i]] : W).toArray⟩ := by
  rw [extract_pc, show i + 1 - i = 1 by omega, List.drop_eq_getElem_cons h, List.take_succ_cons, List.take_zero]
theorem word_lit (w : World) (a : W) : RE (w.alloc (.cells #[strV a] 9)) (.slice (some ⟨w.heap.size, 0, none⟩) 1 1) [a] := RE.lit w #[strV a] 9 1 [a] rfl (by omega) rfl
attribute [local irreducible] RE OE
set_option maxRecDepth 100000 in
set_option maxHeartbeats 8000000 in
theorem rwords_any (l : W) (w : World) (hl : l.length ≤ 1000000) : Calls Tryz.prog 7 #[strV l] w fun e w' => ∃ u, e = .returned u ∧ OE 9 w.heap.size w' u (wordsL l) ∧ Ext w w' := by
  have HL := Lib.hid hl
  go_enter Tryz.func7, Tryz.ntmps7
  go_wp2
  go_loopw [3, 4, 5] (fun ov sv iv wr => ∃ (i : Nat) (o : List W) (a : W), i ≤ l.length + 1 ∧ iv = .int .i64 (i : Int) ∧ sv = strV a ∧ OE 9 w.heap.size wr ov o ∧ (i ≤ l.length → wordsL l = o ++ splitW (l.drop i) a) ∧ (i = l.length + 1 → wordsL l = o) ∧ a.length ≤ i ∧ o.length ≤ i ∧ Ext w wr) (fun _ _ iv _ => l.length + 1 - (intOf iv).toNat)
  case atStart => exact ⟨0, [], [], by omega, rfl, rfl, OE.nilS _ _ _, fun _ => rfl, fun h => by omega, Nat.le_refl _, Nat.le_refl _, Ext.refl _⟩
  case round =>
    obtain ⟨i, o, a, hi, rfl, rfl, ho, h1, h2, ha, hol, hext⟩ := hrel
    rename World => wr
    have HO := Lib.hid ho
    have H1 := Lib.hid h1
    have H2 := Lib.hid h2
    have HE := Lib.hid hext
    have HA := Lib.hid ha
    have HOL := Lib.hid hol
    have hi9 : i ≤ 1000001 := by have := HL.out; omega
    obtain ⟨AO, cO, hvo⟩ := ho.re.form
    subst hvo
    clear ho h1 h2 hext ha hol
    by_cases hle : i ≤ l.length
    · have q2 : (i : Int) ≤ (l.length : Int) := by omega
      have q2n := hle
      by_cases hlt : i < l.length
      · have q1 : (i : Int) < (l.length : Int) := by omega
        have q1n := hlt
        have q0 : 0 ≤ (i : Int) := by omega
        have hxk := run_strIx l i hlt
        have hex := ext1 l i hlt
        have HS := Lib.hid (splitW_c hlt a)
        obtain ⟨c, hc⟩ : ∃ c, l[i] = c := ⟨_, rfl⟩
        rw [hc] at hxk hex HS
        clear hc
        by_cases hb : blankB c = true ∨ c.toNat = 35
        · have hb2 : c.toNat = 32 ∨ c.toNat = 9 ∨ c.toNat = 13 ∨ c.toNat = 10 ∨ c.toNat = 35 := by
            rcases hb with h | h
            · unfold blankB at h
              simp only [Bool.or_eq_true, beq_iff_eq] at h
              omega
            · omega
          clear hb hex hi hle hlt
          rcases hb2 with h9 | h9 | h9 | h9 | h9
          · have n1 : (c.toNat : Int) = 32 := by omega
            have HN := Lib.hid (show ¬ (c.toNat = 35) ∧ blankB c = true from ⟨by omega, by unfold blankB; rw [h9]; rfl⟩)
            clear h9
            cases a with
            | nil =>
              have e0 : ((⟨([] : W).toArray⟩ : ByteArray) == ⟨#[]⟩) = true := by decide
              go_wp2
              refine ⟨⟨i + 1, o, [], by omega, by go_num, rfl, HO.out, fun _ => ?_, fun h => by omega, by simp, by have := HOL.out; omega, HE.out⟩, by simp [intOf]; omega⟩
              rw [H1.out q2n, HS.out, if_neg HN.out.1, if_pos HN.out.2, show flush ([] : W) = [] from rfl, List.nil_append]
            | cons x a =>
              have HLT := Lib.hid (word_lit wr (x :: a))
              have hxl : Ext wr (wr.alloc (.cells #[strV (x :: a)] 9)) := (Ext.refl _).alloc _
              have HO := Lib.hid (HO.out.ext hxl)
              have HE := Lib.hid (HE.out.trans hxl)
              have hne : (⟨(x :: a).toArray⟩ : ByteArray) ≠ ⟨#[]⟩ := by
                intro h
                have := congrArg ByteArray.size h
                simp [ByteArray.size] at this
              clear hxl
              go_wp2_with (at_builtin; refine wpList_appE rfl elemW _ _ _ rfl w.heap.size _ _ o [x :: a] rfl HO.out rfl HLT.out (by have := HOL.out; simp only [List.length_singleton]; omega) (by have := HOL.out; simp only [List.length_singleton]; unfold maxLen; omega) HE.out.size ?_; intro v9 w9 ho9 hb9 hg9)
              refine ⟨⟨i + 1, (o ++ [x :: a]), [], by omega, by go_num, rfl, ho9, fun _ => ?_, fun h => by omega, by simp, by have := HOL.out; simp; omega, (Below.trans HE.out hb9)⟩, by simp [intOf]; omega⟩
              rw [H1.out q2n, HS.out, if_neg HN.out.1, if_pos HN.out.2, show flush (x :: a) = [x :: a] from rfl, List.append_assoc]
          · have n1 : (c.toNat : Int) = 9 := by omega
            have HN := Lib.hid (show ¬ (c.toNat = 35) ∧ blankB c = true from ⟨by omega, by unfold blankB; rw [h9]; rfl⟩)
            clear h9
            cases a with
            | nil =>
              have e0 : ((⟨([] : W).toArray⟩ : ByteArray) == ⟨#[]⟩) = true := by decide
              go_wp2
              refine ⟨⟨i + 1, o, [], by omega, by go_num, rfl, HO.out, fun _ => ?_, fun h => by omega, by simp, by have := HOL.out; omega, HE.out⟩, by simp [intOf]; omega⟩
              rw [H1.out q2n, HS.out, if_neg HN.out.1, if_pos HN.out.2, show flush ([] : W) = [] from rfl, List.nil_append]
            | cons x a =>
              have HLT := Lib.hid (word_lit wr (x :: a))
              have hxl : Ext wr (wr.alloc (.cells #[strV (x :: a)] 9)) := (Ext.refl _).alloc _
              have HO := Lib.hid (HO.out.ext hxl)
              have HE := Lib.hid (HE.out.trans hxl)
              have hne : (⟨(x :: a).toArray⟩ : ByteArray) ≠ ⟨#[]⟩ := by
                intro h
                have := congrArg ByteArray.size h
                simp [ByteArray.size] at this
              clear hxl
              go_wp2_with (at_builtin; refine wpList_appE rfl elemW _ _ _ rfl w.heap.size _ _ o [x :: a] rfl HO.out rfl HLT.out (by have := HOL.out; simp only [List.length_singleton]; omega) (by have := HOL.out; simp only [List.length_singleton]; unfold maxLen; omega) HE.out.size ?_; intro v9 w9 ho9 hb9 hg9)
              refine ⟨⟨i + 1, (o ++ [x :: a]), [], by omega, by go_num, rfl, ho9, fun _ => ?_, fun h => by omega, by simp, by have := HOL.out; simp; omega, (Below.trans HE.out hb9)⟩, by simp [intOf]; omega⟩
              rw [H1.out q2n, HS.out, if_neg HN.out.1, if_pos HN.out.2, show flush (x :: a) = [x :: a] from rfl, List.append_assoc]
          · have n1 : (c.toNat : Int) = 13 := by omega
            have HN := Lib.hid (show ¬ (c.toNat = 35) ∧ blankB c = true from ⟨by omega, by unfold blankB; rw [h9]; rfl⟩)
            clear h9
            cases a with
            | nil =>
              have e0 : ((⟨([] : W).toArray⟩ : ByteArray) == ⟨#[]⟩) = true := by decide
              go_wp2
              refine ⟨⟨i + 1, o, [], by omega, by go_num, rfl, HO.out, fun _ => ?_, fun h => by omega, by simp, by have := HOL.out; omega, HE.out⟩, by simp [intOf]; omega⟩
              rw [H1.out q2n, HS.out, if_neg HN.out.1, if_pos HN.out.2, show flush ([] : W) = [] from rfl, List.nil_append]
            | cons x a =>
              have HLT := Lib.hid (word_lit wr (x :: a))
              have hxl : Ext wr (wr.alloc (.cells #[strV (x :: a)] 9)) := (Ext.refl _).alloc _
              have HO := Lib.hid (HO.out.ext hxl)
              have HE := Lib.hid (HE.out.trans hxl)
              have hne : (⟨(x :: a).toArray⟩ : ByteArray) ≠ ⟨#[]⟩ := by
                intro h
                have := congrArg ByteArray.size h
                simp [ByteArray.size] at this
              clear hxl
              go_wp2_with (at_builtin; refine wpList_appE rfl elemW _ _ _ rfl w.heap.size _ _ o [x :: a] rfl HO.out rfl HLT.out (by have := HOL.out; simp only [List.length_singleton]; omega) (by have := HOL.out; simp only [List.length_singleton]; unfold maxLen; omega) HE.out.size ?_; intro v9 w9 ho9 hb9 hg9)
              refine ⟨⟨i + 1, (o ++ [x :: a]), [], by omega, by go_num, rfl, ho9, fun _ => ?_, fun h => by omega, by simp, by have := HOL.out; simp; omega, (Below.trans HE.out hb9)⟩, by simp [intOf]; omega⟩
              rw [H1.out q2n, HS.out, if_neg HN.out.1, if_pos HN.out.2, show flush (x :: a) = [x :: a] from rfl, List.append_assoc]
          · have n1 : (c.toNat : Int) = 10 := by omega
            have HN := Lib.hid (show ¬ (c.toNat = 35) ∧ blankB c = true from ⟨by omega, by unfold blankB; rw [h9]; rfl⟩)
            clear h9
            cases a with
            | nil =>
              have e0 : ((⟨([] : W).toArray⟩ : ByteArray) == ⟨#[]⟩) = true := by decide
              go_wp2
              refine ⟨⟨i + 1, o, [], by omega, by go_num, rfl, HO.out, fun _ => ?_, fun h => by omega, by simp, by have := HOL.out; omega, HE.out⟩, by simp [intOf]; omega⟩
              rw [H1.out q2n, HS.out, if_neg HN.out.1, if_pos HN.out.2, show flush ([] : W) = [] from rfl, List.nil_append]
            | cons x a =>
              have HLT := Lib.hid (word_lit wr (x :: a))
              have hxl : Ext wr (wr.alloc (.cells #[strV (x :: a)] 9)) := (Ext.refl _).alloc _
              have HO := Lib.hid (HO.out.ext hxl)
              have HE := Lib.hid (HE.out.trans hxl)
              have hne : (⟨(x :: a).toArray⟩ : ByteArray) ≠ ⟨#[]⟩ := by
                intro h
                have := congrArg ByteArray.size h
                simp [ByteArray.size] at this
              clear hxl
              go_wp2_with (at_builtin; refine wpList_appE rfl elemW _ _ _ rfl w.heap.size _ _ o [x :: a] rfl HO.out rfl HLT.out (by have := HOL.out; simp only [List.length_singleton]; omega) (by have := HOL.out; simp only [List.length_singleton]; unfold maxLen; omega) HE.out.size ?_; intro v9 w9 ho9 hb9 hg9)
              refine ⟨⟨i + 1, (o ++ [x :: a]), [], by omega, by go_num, rfl, ho9, fun _ => ?_, fun h => by omega, by simp, by have := HOL.out; simp; omega, (Below.trans HE.out hb9)⟩, by simp [intOf]; omega⟩
              rw [H1.out q2n, HS.out, if_neg HN.out.1, if_pos HN.out.2, show flush (x :: a) = [x :: a] from rfl, List.append_assoc]
          · have n1 : (c.toNat : Int) = 35 := by omega
            have HN := Lib.hid h9
            clear h9
            cases a with
            | nil =>
              have e0 : ((⟨([] : W).toArray⟩ : ByteArray) == ⟨#[]⟩) = true := by decide
              go_wp2
              go_ret
              exact ⟨_, rfl, by rw [H1.out q2n, HS.out, if_pos HN.out, show flush ([] : W) = [] from rfl, List.append_nil]; exact HO.out, HE.out⟩
            | cons x a =>
              have HLT := Lib.hid (word_lit wr (x :: a))
              have hxl : Ext wr (wr.alloc (.cells #[strV (x :: a)] 9)) := (Ext.refl _).alloc _
              have HO := Lib.hid (HO.out.ext hxl)
              have HE := Lib.hid (HE.out.trans hxl)
              have hne : (⟨(x :: a).toArray⟩ : ByteArray) ≠ ⟨#[]⟩ := by
                intro h
                have := congrArg ByteArray.size h
                simp [ByteArray.size] at this
              clear hxl
              go_wp2_with (at_builtin; refine wpList_appE rfl elemW _ _ _ rfl w.heap.size _ _ o [x :: a] rfl HO.out rfl HLT.out (by have := HOL.out; simp only [List.length_singleton]; omega) (by have := HOL.out; simp only [List.length_singleton]; unfold maxLen; omega) HE.out.size ?_; intro v9 w9 ho9 hb9 hg9)
              go_ret
              exact ⟨_, rfl, by rw [H1.out q2n, HS.out, if_pos HN.out, show flush (x :: a) = [x :: a] from rfl]; exact ho9, (Below.trans HE.out hb9)⟩
        · have n1 : ¬ (c.toNat : Int) = 32 := by intro e; exact hb (.inl (by unfold blankB; simp; omega))
          have n2 : ¬ (c.toNat : Int) = 9 := by intro e; exact hb (.inl (by unfold blankB; simp; omega))
          have n3 : ¬ (c.toNat : Int) = 13 := by intro e; exact hb (.inl (by unfold blankB; simp; omega))
          have n4 : ¬ (c.toNat : Int) = 10 := by intro e; exact hb (.inl (by unfold blankB; simp; omega))
          have n5 : ¬ (c.toNat : Int) = 35 := by intro e; exact hb (.inr (by omega))
          have b1 : ((c.toNat : Int) != 32) = true := by simpa using n1
          have b2 : ((c.toNat : Int) != 9) = true := by simpa using n2
          have b3 : ((c.toNat : Int) != 13) = true := by simpa using n3
          have b4 : ((c.toNat : Int) != 10) = true := by simpa using n4
          have b5 : ((c.toNat : Int) != 35) = true := by simpa using n5
          have ha1 := fun w => add_str (P := Tryz.prog) (t := 9) a [c] w (by have := HA.out; simp; omega)
          clear hi hle hlt
          have HN := Lib.hid (show ¬ (c.toNat = 35) ∧ blankB c = false from ⟨by omega, by rw [← Bool.not_eq_true]; exact fun h => hb (.inl h)⟩)
          clear hb
          go_wp2
          refine ⟨⟨i + 1, o, a ++ [c], by omega, by go_num, rfl, HO.out, fun _ => ?_, fun h => by omega, by have := HA.out; simp; omega, by have := HOL.out; omega, HE.out⟩, by simp [intOf]; omega⟩
          rw [H1.out q2n, HS.out, if_neg HN.out.1, if_neg (by rw [HN.out.2]; simp)]
      · obtain rfl : i = l.length := by omega
        have q1 : ¬ (l.length : Int) < (l.length : Int) := by omega
        have q1n : ¬ l.length < l.length := by omega
        have HW := Lib.hid (show wordsL l = o ++ flush a from by rw [H1.out (Nat.le_refl _), List.drop_length]; rfl)
        clear hi hle hlt
        cases a with
        | nil =>
          have e0 : ((⟨([] : W).toArray⟩ : ByteArray) == ⟨#[]⟩) = true := by decide
          go_wp2
          exact ⟨⟨l.length + 1, o, [], by omega, by go_num, rfl, HO.out, fun h => by omega, fun _ => by rw [HW.out, show flush ([] : W) = [] from rfl, List.append_nil], by simp, by have := HOL.out; omega, HE.out⟩, by first | (simp [intOf]; done) | (simp [intOf]; omega)⟩
        | cons x a =>
          have HLT := Lib.hid (word_lit wr (x :: a))
          have hxl : Ext wr (wr.alloc (.cells #[strV (x :: a)] 9)) := (Ext.refl _).alloc _
          have HO := Lib.hid (HO.out.ext hxl)
          have HE := Lib.hid (HE.out.trans hxl)
          have hne : (⟨(x :: a).toArray⟩ : ByteArray) ≠ ⟨#[]⟩ := by
            intro h
            have := congrArg ByteArray.size h
            simp [ByteArray.size] at this
          clear hxl
          go_wp2_with (at_builtin; refine wpList_appE rfl elemW _ _ _ rfl w.heap.size _ _ o [x :: a] rfl HO.out rfl HLT.out (by have := HOL.out; simp only [List.length_singleton]; omega) (by have := HOL.out; simp only [List.length_singleton]; unfold maxLen; omega) HE.out.size ?_; intro v9 w9 ho9 hb9 hg9)
          exact ⟨⟨l.length + 1, (o ++ [x :: a]), [], by omega, by go_num, rfl, ho9, fun h => by omega, fun _ => by rw [HW.out, show flush (x :: a) = [x :: a] from rfl], by simp, by have := HOL.out; simp; omega, (Below.trans HE.out hb9)⟩, by first | (simp [intOf]; done) | (simp [intOf]; omega)⟩
    · obtain rfl : i = l.length + 1 := by omega
      have q2 : ¬ (((l.length + 1 : Nat)) : Int) ≤ (l.length : Int) := by omega
      have HW := Lib.hid (H2.out rfl)
      clear hi hle
      go_wp2
      go_ret
      exact ⟨_, rfl, by rw [HW.out]; exact HO.out, HE.out⟩
end Go.Proofs.YtpmgmiiidfconaaGreatDoor
