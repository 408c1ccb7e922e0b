/-
  ScrIdx, packed: what the claim needs of them.
-/
import Derived.Test.YtpmpjjhchkoboaaGreatDoorPa23
namespace Go.Proofs.YtpmpjjhchkoboaaGreatDoor
open Go.RowKit Go.Ox Go.Ox.Gr Go.Ox.Sc
set_option linter.unusedVariables false
set_option linter.unusedSimpArgs false
attribute [local irreducible] RE OE EpR InsR ActsR RP
def anyB (p : Bag → Bool) (l : List (Bag)) : Bool := l.any p
theorem anyB_s (p : Bag → Bool) (l : List (Bag)) {k : Nat} (h : k < l.length) : anyB p (l.take (k + 1)) = (anyB p (l.take k) || p l[k]) := by
  unfold anyB
  rw [List.take_succ_eq_append_getElem h, List.any_append]
  simp
set_option maxRecDepth 100000 in
set_option maxHeartbeats 2000000 in
theorem indexB_any (p : Bag → Bool) (g : Nat) (lb : Array Value) (eg : ∀ args w, (callFunc g args).run Tryz.prog w = .ok (.enter g args) w) (v : Value) (l : List (Bag)) (w : World) (hv : EpR w v l) (hl : l.length ≤ 1000000000)
    (hcl : ∀ u x W, x ∈ l → Ext w W → RP W u x → Calls Tryz.prog g (#[u] ++ lb) W fun e W' => e = .returned (.bool (p x)) ∧ Ext W W') :
    Calls Tryz.prog 129 #[v, .func (.func g) #[] lb] w fun e w' => Ext w w' ∧ ((e = .returned (.int .i64 (-1)) ∧ anyB p l = false) ∨ ∃ k : Nat, e = .returned (.int .i64 (k : Int)) ∧ anyB p l = true) := by
  obtain ⟨A, c, rfl⟩ := hv.form
  have HV := Lib.hid hv
  have HCL := Lib.hid hcl
  clear hv hcl
  go_enter Tryz.func129, Tryz.ntmps129
  go_wp2
  go_loopw [8] (fun iv wr => ∃ k : Nat, k ≤ l.length ∧ iv = .int .i64 (k : Int) ∧ anyB p (l.take k) = false ∧ Ext w wr) (fun iv _ => l.length - (intOf iv).toNat)
  case atStart => exact ⟨0, Nat.zero_le _, rfl, rfl, Ext.refl _⟩
  case round =>
    obtain ⟨k, hk, rfl, hp, hext⟩ := hrel
    have HP := Lib.hid hp
    have HE := Lib.hid hext
    clear hp
    by_cases hlt : k < l.length
    · have g1 : (k : Int) < (l.length : Int) := by omega
      have g0 : 0 ≤ (k : Int) := by omega
      have g1n : k < l.length := hlt
      have HLT := Lib.hid hlt
      obtain ⟨bA, oA, u0, rfl, c0, hu0⟩ := (EpR.ext HV.out hext).at_ hlt
      have HS := Lib.hid (show anyB p (l.take (k + 1)) = p l[k] by rw [anyB_s p l hlt, HP.out]; rfl)
      have HT := Lib.hid (show p l[k] = true → anyB p l = true from fun h => List.any_eq_true.2 ⟨_, List.getElem_mem hlt, h⟩)
      have HC := Lib.hid (HCL.out u0 l[k] wr (List.getElem_mem hlt) hext hu0)
      generalize l[k] = x at *
      obtain ⟨Au, cu, rfl⟩ := hu0.form
      clear hext hk hlt
      cases hd : p x with
      | true =>
        rw [hd] at HC
        have HR := Lib.hid (HT.out hd)
        clear hd
        go_wp2_with fail
        refine HC.out.mono ?_
        rintro e w1 ⟨rfl, he1⟩
        go_wp2
        go_ret
        exact ⟨HE.out.trans he1, .inr ⟨k, rfl, HR.out⟩⟩
      | false =>
        rw [hd] at HC HS
        clear hd
        go_wp2_with fail
        refine HC.out.mono ?_
        rintro e w1 ⟨rfl, he1⟩
        go_wp2
        exact ⟨⟨k + 1, HLT.out, by go_num, HS.out, HE.out.trans he1⟩, by have := HLT.out; simp [intOf]; omega⟩
    · obtain rfl : k = l.length := by omega
      have g1 : ¬ (l.length : Int) < (l.length : Int) := by omega
      rw [List.take_length] at HP
      clear hext
      go_wp2
      go_ret
      exact ⟨HE.out, .inl ⟨rfl, HP.out⟩⟩
set_option maxRecDepth 100000 in
set_option maxHeartbeats 1000000 in
theorem containsB_any (p : Bag → Bool) (g : Nat) (lb : Array Value) (eg : ∀ args w, (callFunc g args).run Tryz.prog w = .ok (.enter g args) w) (v : Value) (l : List (Bag)) (w : World) (hv : EpR w v l) (hl : l.length ≤ 1000000000)
    (hcl : ∀ u x W, x ∈ l → Ext w W → RP W u x → Calls Tryz.prog g (#[u] ++ lb) W fun e W' => e = .returned (.bool (p x)) ∧ Ext W W') :
    Calls Tryz.prog 87 #[v, .func (.func g) #[] lb] w fun e w' => e = .returned (.bool (anyB p l)) ∧ Ext w w' := by
  have HI := Lib.hid (indexB_any p g lb eg v l w hv hl hcl)
  obtain ⟨A, c, rfl⟩ := hv.form
  clear hv hcl eg
  generalize anyB p l = a at *
  go_enter Tryz.func87, Tryz.ntmps87
  go_wp2_with fail
  refine HI.out.mono ?_
  rintro e w1 ⟨he1, ⟨rfl, rfl⟩ | ⟨k, rfl, rfl⟩⟩
  · go_wp2
    go_ret
    exact ⟨rfl, he1⟩
  · have g0 : 0 ≤ (k : Int) := by omega
    go_wp2
    go_ret
    exact ⟨rfl, he1⟩
def anyE (p : List Bag → Bool) (l : List (List Bag)) : Bool := l.any p
theorem anyE_s (p : List Bag → Bool) (l : List (List Bag)) {k : Nat} (h : k < l.length) : anyE p (l.take (k + 1)) = (anyE p (l.take k) || p l[k]) := by
  unfold anyE
  rw [List.take_succ_eq_append_getElem h, List.any_append]
  simp
set_option maxRecDepth 100000 in
set_option maxHeartbeats 2000000 in
theorem indexE_any (p : List Bag → Bool) (g : Nat) (lb : Array Value) (eg : ∀ args w, (callFunc g args).run Tryz.prog w = .ok (.enter g args) w) (v : Value) (l : List (List Bag)) (w : World) (hv : InsR w v l) (hl : l.length ≤ 1000000000)
    (hcl : ∀ u x W, x ∈ l → Ext w W → EpR W u x → Calls Tryz.prog g (#[u] ++ lb) W fun e W' => e = .returned (.bool (p x)) ∧ Ext W W') :
    Calls Tryz.prog 93 #[v, .func (.func g) #[] lb] w fun e w' => Ext w w' ∧ ((e = .returned (.int .i64 (-1)) ∧ anyE p l = false) ∨ ∃ k : Nat, e = .returned (.int .i64 (k : Int)) ∧ anyE p l = true) := by
  obtain ⟨A, c, rfl⟩ := hv.form
  have HV := Lib.hid hv
  have HCL := Lib.hid hcl
  clear hv hcl
  go_enter Tryz.func93, Tryz.ntmps93
  go_wp2
  go_loopw [8] (fun iv wr => ∃ k : Nat, k ≤ l.length ∧ iv = .int .i64 (k : Int) ∧ anyE p (l.take k) = false ∧ Ext w wr) (fun iv _ => l.length - (intOf iv).toNat)
  case atStart => exact ⟨0, Nat.zero_le _, rfl, rfl, Ext.refl _⟩
  case round =>
    obtain ⟨k, hk, rfl, hp, hext⟩ := hrel
    have HP := Lib.hid hp
    have HE := Lib.hid hext
    clear hp
    by_cases hlt : k < l.length
    · have g1 : (k : Int) < (l.length : Int) := by omega
      have g0 : 0 ≤ (k : Int) := by omega
      have g1n : k < l.length := hlt
      have HLT := Lib.hid hlt
      obtain ⟨bA, oA, u0, rfl, c0, hu0⟩ := (InsR.ext HV.out hext).at_ hlt
      have HS := Lib.hid (show anyE p (l.take (k + 1)) = p l[k] by rw [anyE_s p l hlt, HP.out]; rfl)
      have HT := Lib.hid (show p l[k] = true → anyE p l = true from fun h => List.any_eq_true.2 ⟨_, List.getElem_mem hlt, h⟩)
      have HC := Lib.hid (HCL.out u0 l[k] wr (List.getElem_mem hlt) hext hu0)
      generalize l[k] = x at *
      obtain ⟨Au, cu, rfl⟩ := hu0.form
      clear hext hk hlt
      cases hd : p x with
      | true =>
        rw [hd] at HC
        have HR := Lib.hid (HT.out hd)
        clear hd
        go_wp2_with fail
        refine HC.out.mono ?_
        rintro e w1 ⟨rfl, he1⟩
        go_wp2
        go_ret
        exact ⟨HE.out.trans he1, .inr ⟨k, rfl, HR.out⟩⟩
      | false =>
        rw [hd] at HC HS
        clear hd
        go_wp2_with fail
        refine HC.out.mono ?_
        rintro e w1 ⟨rfl, he1⟩
        go_wp2
        exact ⟨⟨k + 1, HLT.out, by go_num, HS.out, HE.out.trans he1⟩, by have := HLT.out; simp [intOf]; omega⟩
    · obtain rfl : k = l.length := by omega
      have g1 : ¬ (l.length : Int) < (l.length : Int) := by omega
      rw [List.take_length] at HP
      clear hext
      go_wp2
      go_ret
      exact ⟨HE.out, .inl ⟨rfl, HP.out⟩⟩
set_option maxRecDepth 100000 in
set_option maxHeartbeats 1000000 in
theorem containsE_any (p : List Bag → Bool) (g : Nat) (lb : Array Value) (eg : ∀ args w, (callFunc g args).run Tryz.prog w = .ok (.enter g args) w) (v : Value) (l : List (List Bag)) (w : World) (hv : InsR w v l) (hl : l.length ≤ 1000000000)
    (hcl : ∀ u x W, x ∈ l → Ext w W → EpR W u x → Calls Tryz.prog g (#[u] ++ lb) W fun e W' => e = .returned (.bool (p x)) ∧ Ext W W') :
    Calls Tryz.prog 46 #[v, .func (.func g) #[] lb] w fun e w' => e = .returned (.bool (anyE p l)) ∧ Ext w w' := by
  have HI := Lib.hid (indexE_any p g lb eg v l w hv hl hcl)
  obtain ⟨A, c, rfl⟩ := hv.form
  clear hv hcl eg
  generalize anyE p l = a at *
  go_enter Tryz.func46, Tryz.ntmps46
  go_wp2_with fail
  refine HI.out.mono ?_
  rintro e w1 ⟨he1, ⟨rfl, rfl⟩ | ⟨k, rfl, rfl⟩⟩
  · go_wp2
    go_ret
    exact ⟨rfl, he1⟩
  · have g0 : 0 ≤ (k : Int) := by omega
    go_wp2
    go_ret
    exact ⟨rfl, he1⟩
def anyA (p : Sc.Act → Bool) (l : List (Sc.Act)) : Bool := l.any p
theorem anyA_s (p : Sc.Act → Bool) (l : List (Sc.Act)) {k : Nat} (h : k < l.length) : anyA p (l.take (k + 1)) = (anyA p (l.take k) || p l[k]) := by
  unfold anyA
  rw [List.take_succ_eq_append_getElem h, List.any_append]
  simp
set_option maxRecDepth 100000 in
set_option maxHeartbeats 2000000 in
theorem indexA_any (p : Sc.Act → Bool) (g : Nat) (lb : Array Value) (eg : ∀ args w, (callFunc g args).run Tryz.prog w = .ok (.enter g args) w) (v : Value) (l : List (Sc.Act)) (w : World) (hv : ActsR w v l) (hl : l.length ≤ 1000000000)
    (hcl : ∀ u x W, x ∈ l → Ext w W → RE W u x.2 → Calls Tryz.prog g (#[actAg x.1.1 x.1.2.1 x.1.2.2.1 x.1.2.2.2.1 x.1.2.2.2.2 u] ++ lb) W fun e W' => e = .returned (.bool (p x)) ∧ Ext W W') :
    Calls Tryz.prog 94 #[v, .func (.func g) #[] lb] w fun e w' => Ext w w' ∧ ((e = .returned (.int .i64 (-1)) ∧ anyA p l = false) ∨ ∃ k : Nat, e = .returned (.int .i64 (k : Int)) ∧ anyA p l = true) := by
  obtain ⟨A, c, rfl⟩ := hv.form
  have HV := Lib.hid hv
  have HCL := Lib.hid hcl
  clear hv hcl
  go_enter Tryz.func94, Tryz.ntmps94
  go_wp2
  go_loopw [8] (fun iv wr => ∃ k : Nat, k ≤ l.length ∧ iv = .int .i64 (k : Int) ∧ anyA p (l.take k) = false ∧ Ext w wr) (fun iv _ => l.length - (intOf iv).toNat)
  case atStart => exact ⟨0, Nat.zero_le _, rfl, rfl, Ext.refl _⟩
  case round =>
    obtain ⟨k, hk, rfl, hp, hext⟩ := hrel
    have HP := Lib.hid hp
    have HE := Lib.hid hext
    clear hp
    by_cases hlt : k < l.length
    · have g1 : (k : Int) < (l.length : Int) := by omega
      have g0 : 0 ≤ (k : Int) := by omega
      have g1n : k < l.length := hlt
      have HLT := Lib.hid hlt
      obtain ⟨bA, oA, u0, rfl, c0, c1, c2, c3, c4, c5, hu0⟩ := (ActsR.ext HV.out hext).at_ hlt
      have HS := Lib.hid (show anyA p (l.take (k + 1)) = p l[k] by rw [anyA_s p l hlt, HP.out]; rfl)
      have HT := Lib.hid (show p l[k] = true → anyA p l = true from fun h => List.any_eq_true.2 ⟨_, List.getElem_mem hlt, h⟩)
      have HC := Lib.hid (HCL.out u0 l[k] wr (List.getElem_mem hlt) hext hu0)
      generalize l[k] = x at *
      obtain ⟨Au, cu, rfl⟩ := hu0.form
      clear hext hk hlt
      cases hd : p x with
      | true =>
        rw [hd] at HC
        have HR := Lib.hid (HT.out hd)
        clear hd
        go_wp2_with fail
        refine HC.out.mono ?_
        rintro e w1 ⟨rfl, he1⟩
        go_wp2
        go_ret
        exact ⟨HE.out.trans he1, .inr ⟨k, rfl, HR.out⟩⟩
      | false =>
        rw [hd] at HC HS
        clear hd
        go_wp2_with fail
        refine HC.out.mono ?_
        rintro e w1 ⟨rfl, he1⟩
        go_wp2
        exact ⟨⟨k + 1, HLT.out, by go_num, HS.out, HE.out.trans he1⟩, by have := HLT.out; simp [intOf]; omega⟩
    · obtain rfl : k = l.length := by omega
      have g1 : ¬ (l.length : Int) < (l.length : Int) := by omega
      rw [List.take_length] at HP
      clear hext
      go_wp2
      go_ret
      exact ⟨HE.out, .inl ⟨rfl, HP.out⟩⟩
set_option maxRecDepth 100000 in
set_option maxHeartbeats 1000000 in
theorem containsA_any (p : Sc.Act → Bool) (g : Nat) (lb : Array Value) (eg : ∀ args w, (callFunc g args).run Tryz.prog w = .ok (.enter g args) w) (v : Value) (l : List (Sc.Act)) (w : World) (hv : ActsR w v l) (hl : l.length ≤ 1000000000)
    (hcl : ∀ u x W, x ∈ l → Ext w W → RE W u x.2 → Calls Tryz.prog g (#[actAg x.1.1 x.1.2.1 x.1.2.2.1 x.1.2.2.2.1 x.1.2.2.2.2 u] ++ lb) W fun e W' => e = .returned (.bool (p x)) ∧ Ext W W') :
    Calls Tryz.prog 47 #[v, .func (.func g) #[] lb] w fun e w' => e = .returned (.bool (anyA p l)) ∧ Ext w w' := by
  have HI := Lib.hid (indexA_any p g lb eg v l w hv hl hcl)
  obtain ⟨A, c, rfl⟩ := hv.form
  clear hv hcl eg
  generalize anyA p l = a at *
  go_enter Tryz.func47, Tryz.ntmps47
  go_wp2_with fail
  refine HI.out.mono ?_
  rintro e w1 ⟨he1, ⟨rfl, rfl⟩ | ⟨k, rfl, rfl⟩⟩
  · go_wp2
    go_ret
    exact ⟨rfl, he1⟩
  · have g0 : 0 ≤ (k : Int) := by omega
    go_wp2
    go_ret
    exact ⟨rfl, he1⟩
end Go.Proofs.YtpmpjjhchkoboaaGreatDoor
