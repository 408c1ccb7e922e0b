/-
  ScrRel, ScrIdx, packed: what the claim needs of them.
-/
import Derived.Test.YtpmgmiiidfconaaGreatDoorPz11
import Derived.Test.YtpmgmiiidfconaaGreatDoorPz12
import Derived.Test.YtpmgmiiidfconaaGreatDoorPz05
import Derived.Test.YtpmgmiiidfconaaGreatDoorPz06
namespace Go.Ox.Sc
set_option linter.unusedVariables false
noncomputable def srtE (l : List Bag) : List Bag := l.map Rec.srt
/-- a script with its bags in order -/
noncomputable def nrm (s : Sc) : Sc := ⟨s.cfg, s.g, s.ins.map srtE, s.acts⟩
end Go.Ox.Sc
namespace Go.Ox.Sc
open Go.RowKit Go.Ox Go.Ox.Gr
set_option linter.unusedVariables false
def EpR (w : World) (v : Value) (l : List Bag) : Prop := RV (fun w u b => RP w u b) w v l
theorem EpR.ext {w w' : World} {v : Value} {l : List Bag} (h : EpR w v l) (he : Ext w w') : EpR w' v l := RV.ext h (fun _ _ hx => RP.ext hx he) he
theorem EpR.form {w : World} {v : Value} {l : List Bag} (h : EpR w v l) : ∃ A c, v = .slice A l.length c := RV.form h
theorem EpR.at_ {w : World} {A : Option Addr} {n c : Nat} {l : List Bag} (h : EpR w (.slice A n c) l) {k : Nat} (hk : k < l.length) :
    ∃ b o u, A = some ⟨b, o, none⟩ ∧ w.cell? ⟨b, o + k, none⟩ = some u ∧ RP w u l[k] := RV.at_ h hk
def InsR (w : World) (v : Value) (l : List (List Bag)) : Prop := RV EpR w v l
theorem InsR.ext {w w' : World} {v : Value} {l : List (List Bag)} (h : InsR w v l) (he : Ext w w') : InsR w' v l := RV.ext h (fun _ _ hx => hx.ext he) he
theorem InsR.form {w : World} {v : Value} {l : List (List Bag)} (h : InsR w v l) : ∃ A c, v = .slice A l.length c := RV.form h
theorem InsR.nil (w : World) : InsR w (.slice none 0 0) [] := RV.nil _ _
theorem InsR.at_ {w : World} {A : Option Addr} {n c : Nat} {l : List (List Bag)} (h : InsR w (.slice A n c) l) {k : Nat} (hk : k < l.length) :
    ∃ b o u, A = some ⟨b, o, none⟩ ∧ w.cell? ⟨b, o + k, none⟩ = some u ∧ EpR w u l[k] := RV.at_ h hk
abbrev actV (a : Act) (u : Value) : List Value := [.int .i64 a.1.1, .int .i64 a.1.2.1, .int .i64 a.1.2.2.1, .int .i64 a.1.2.2.2.1, .int .i64 a.1.2.2.2.2, u]
def ActQ (w : World) (r : List Value) (a : Act) : Prop := ∃ u, r = actV a u ∧ RE w u a.2
theorem ActQ.ext {w w' : World} {r : List Value} {a : Act} (h : ActQ w r a) (he : Ext w w') : ActQ w' r a := by
  obtain ⟨u, h1, h2⟩ := h
  exact ⟨u, h1, RE.ext h2 he⟩
def ActsR (w : World) (v : Value) (l : List Act) : Prop := RS 6 ActQ w v l
theorem ActsR.ext {w w' : World} {v : Value} {l : List Act} (h : ActsR w v l) (he : Ext w w') : ActsR w' v l := RS.ext h (fun _ _ _ hx => hx.ext he) he
theorem ActsR.form {w : World} {v : Value} {l : List Act} (h : ActsR w v l) : ∃ A c, v = .slice A l.length c := RS.form h
theorem ActsR.at_ {w : World} {A : Option Addr} {n c : Nat} {l : List Act} (h : ActsR w (.slice A n c) l) {i : Nat} (hi : i < l.length) :
    ∃ b o u, A = some ⟨b, o, none⟩ ∧ w.cell? ⟨b, o + i * 6, none⟩ = some (.int .i64 l[i].1.1) ∧ w.cell? ⟨b, o + i * 6 + 1, none⟩ = some (.int .i64 l[i].1.2.1) ∧ w.cell? ⟨b, o + i * 6 + 2, none⟩ = some (.int .i64 l[i].1.2.2.1) ∧
      w.cell? ⟨b, o + i * 6 + 3, none⟩ = some (.int .i64 l[i].1.2.2.2.1) ∧ w.cell? ⟨b, o + i * 6 + 4, none⟩ = some (.int .i64 l[i].1.2.2.2.2) ∧ w.cell? ⟨b, o + i * 6 + 5, none⟩ = some u ∧ RE w u l[i].2 := by
  obtain ⟨b, o, r, hA, hr, ⟨u, h1, h2⟩, hc⟩ := RS.at_ h (by omega) hi
  subst h1
  exact ⟨b, o, u, hA, hc 0 _ rfl, hc 1 _ rfl, hc 2 _ rfl, hc 3 _ rfl, hc 4 _ rfl, hc 5 _ rfl, h2⟩
/-- a script in memory -/
structure ScR (d : Nat) (w : World) (nv iv av : Value) (s : Sc) : Prop where
  n : NodesR d w nv s.g.1
  i : InsR w iv s.ins
  a : ActsR w av s.acts
theorem ScR.ext {d : Nat} {w w' : World} {nv iv av : Value} {s : Sc} (h : ScR d w nv iv av s) (he : Ext w w') : ScR d w' nv iv av s := ⟨h.n.ext he, h.i.ext he, h.a.ext he⟩
theorem ScR.form {d : Nat} {w : World} {nv iv av : Value} {s : Sc} (h : ScR d w nv iv av s) : (∃ A c, nv = .slice A s.g.1.length c) ∧ (∃ A c, iv = .slice A s.ins.length c) ∧ ∃ A c, av = .slice A s.acts.length c := ⟨h.n.form, h.i.form, h.a.form⟩
abbrev scL8 (s : Sc) (nv iv av : Value) : Array Value := #[.int .i64 s.cfg.1, .int .i64 s.cfg.2.1, .int .i64 s.cfg.2.2.1, .int .i64 s.cfg.2.2.2, nv, .int .i64 s.g.2, iv, av]
abbrev scAg (s : Sc) (nv iv av : Value) : Value := .agg (scL8 s nv iv av)
/-- what is looked at -/
structure ScSm (s : Sc) : Prop where
  ins : s.ins.length ≤ 1000000
  eps : ∀ l ∈ s.ins, l.length ≤ 1000000 ∧ ∀ b ∈ l, b.length ≤ 1000000
  acts : s.acts.length ≤ 1000000
  keeps : ∀ a ∈ s.acts, a.2.length ≤ 1000000
end Go.Ox.Sc
namespace Go.Proofs.YtpmgmiiidfconaaGreatDoor
open Go.RowKit Go.Ox Go.Ox.Gr Go.Ox.Sc
set_option linter.unusedVariables false
set_option linter.unusedSimpArgs false
attribute [local irreducible] RE OE EpR InsR ActsR RP
def anyB (p : Bag → Bool) (l : List (Bag)) : Bool := l.any p
theorem anyB_s (p : Bag → Bool) (l : List (Bag)) {k : Nat} (h : k < l.length) : anyB p (l.take (k + 1)) = (anyB p (l.take k) || p l[k]) := by
  unfold anyB
  rw [List.take_succ_eq_append_getElem h, List.any_append]
  simp
set_option maxRecDepth 100000 in
set_option maxHeartbeats 2000000 in
theorem indexB_any (p : Bag → Bool) (g : Nat) (lb : Array Value) (eg : ∀ args w, (callFunc g args).run Tryz.prog w = .ok (.enter g args) w) (v : Value) (l : List (Bag)) (w : World) (hv : EpR w v l) (hl : l.length ≤ 1000000000)
    (hcl : ∀ u x W, x ∈ l → Ext w W → RP W u x → Calls Tryz.prog g (#[u] ++ lb) W fun e W' => e = .returned (.bool (p x)) ∧ Ext W W') :
    Calls Tryz.prog 113 #[v, .func (.func g) #[] lb] w fun e w' => Ext w w' ∧ ((e = .returned (.int .i64 (-1)) ∧ anyB p l = false) ∨ ∃ k : Nat, e = .returned (.int .i64 (k : Int)) ∧ anyB p l = true) := by
  obtain ⟨A, c, rfl⟩ := hv.form
  have HV := Lib.hid hv
  have HCL := Lib.hid hcl
  clear hv hcl
  go_enter Tryz.func113, Tryz.ntmps113
  go_wp2
  go_loopw [8] (fun iv wr => ∃ k : Nat, k ≤ l.length ∧ iv = .int .i64 (k : Int) ∧ anyB p (l.take k) = false ∧ Ext w wr) (fun iv _ => l.length - (intOf iv).toNat)
  case atStart => exact ⟨0, Nat.zero_le _, rfl, rfl, Ext.refl _⟩
  case round =>
    obtain ⟨k, hk, rfl, hp, hext⟩ := hrel
    have HP := Lib.hid hp
    have HE := Lib.hid hext
    clear hp
    by_cases hlt : k < l.length
    · have g1 : (k : Int) < (l.length : Int) := by omega
      have g0 : 0 ≤ (k : Int) := by omega
      have g1n : k < l.length := hlt
      have HLT := Lib.hid hlt
      obtain ⟨bA, oA, u0, rfl, c0, hu0⟩ := (EpR.ext HV.out hext).at_ hlt
      have HS := Lib.hid (show anyB p (l.take (k + 1)) = p l[k] by rw [anyB_s p l hlt, HP.out]; rfl)
      have HT := Lib.hid (show p l[k] = true → anyB p l = true from fun h => List.any_eq_true.2 ⟨_, List.getElem_mem hlt, h⟩)
      have HC := Lib.hid (HCL.out u0 l[k] wr (List.getElem_mem hlt) hext hu0)
      generalize l[k] = x at *
      obtain ⟨Au, cu, rfl⟩ := hu0.form
      clear hext hk hlt
      cases hd : p x with
      | true =>
        rw [hd] at HC
        have HR := Lib.hid (HT.out hd)
        clear hd
        go_wp2_with fail
        refine HC.out.mono ?_
        rintro e w1 ⟨rfl, he1⟩
        go_wp2
        go_ret
        exact ⟨HE.out.trans he1, .inr ⟨k, rfl, HR.out⟩⟩
      | false =>
        rw [hd] at HC HS
        clear hd
        go_wp2_with fail
        refine HC.out.mono ?_
        rintro e w1 ⟨rfl, he1⟩
        go_wp2
        exact ⟨⟨k + 1, HLT.out, by go_num, HS.out, HE.out.trans he1⟩, by have := HLT.out; simp [intOf]; omega⟩
    · obtain rfl : k = l.length := by omega
      have g1 : ¬ (l.length : Int) < (l.length : Int) := by omega
      rw [List.take_length] at HP
      clear hext
      go_wp2
      go_ret
      exact ⟨HE.out, .inl ⟨rfl, HP.out⟩⟩
set_option maxRecDepth 100000 in
set_option maxHeartbeats 1000000 in
theorem containsB_any (p : Bag → Bool) (g : Nat) (lb : Array Value) (eg : ∀ args w, (callFunc g args).run Tryz.prog w = .ok (.enter g args) w) (v : Value) (l : List (Bag)) (w : World) (hv : EpR w v l) (hl : l.length ≤ 1000000000)
    (hcl : ∀ u x W, x ∈ l → Ext w W → RP W u x → Calls Tryz.prog g (#[u] ++ lb) W fun e W' => e = .returned (.bool (p x)) ∧ Ext W W') :
    Calls Tryz.prog 85 #[v, .func (.func g) #[] lb] w fun e w' => e = .returned (.bool (anyB p l)) ∧ Ext w w' := by
  have HI := Lib.hid (indexB_any p g lb eg v l w hv hl hcl)
  obtain ⟨A, c, rfl⟩ := hv.form
  clear hv hcl eg
  generalize anyB p l = a at *
  go_enter Tryz.func85, Tryz.ntmps85
  go_wp2_with fail
  refine HI.out.mono ?_
  rintro e w1 ⟨he1, ⟨rfl, rfl⟩ | ⟨k, rfl, rfl⟩⟩
  · go_wp2
    go_ret
    exact ⟨rfl, he1⟩
  · have g0 : 0 ≤ (k : Int) := by omega
    go_wp2
    go_ret
    exact ⟨rfl, he1⟩
def anyE (p : List Bag → Bool) (l : List (List Bag)) : Bool := l.any p
theorem anyE_s (p : List Bag → Bool) (l : List (List Bag)) {k : Nat} (h : k < l.length) : anyE p (l.take (k + 1)) = (anyE p (l.take k) || p l[k]) := by
  unfold anyE
  rw [List.take_succ_eq_append_getElem h, List.any_append]
  simp
set_option maxRecDepth 100000 in
set_option maxHeartbeats 2000000 in
theorem indexE_any (p : List Bag → Bool) (g : Nat) (lb : Array Value) (eg : ∀ args w, (callFunc g args).run Tryz.prog w = .ok (.enter g args) w) (v : Value) (l : List (List Bag)) (w : World) (hv : InsR w v l) (hl : l.length ≤ 1000000000)
    (hcl : ∀ u x W, x ∈ l → Ext w W → EpR W u x → Calls Tryz.prog g (#[u] ++ lb) W fun e W' => e = .returned (.bool (p x)) ∧ Ext W W') :
    Calls Tryz.prog 90 #[v, .func (.func g) #[] lb] w fun e w' => Ext w w' ∧ ((e = .returned (.int .i64 (-1)) ∧ anyE p l = false) ∨ ∃ k : Nat, e = .returned (.int .i64 (k : Int)) ∧ anyE p l = true) := by
  obtain ⟨A, c, rfl⟩ := hv.form
  have HV := Lib.hid hv
  have HCL := Lib.hid hcl
  clear hv hcl
  go_enter Tryz.func90, Tryz.ntmps90
  go_wp2
  go_loopw [8] (fun iv wr => ∃ k : Nat, k ≤ l.length ∧ iv = .int .i64 (k : Int) ∧ anyE p (l.take k) = false ∧ Ext w wr) (fun iv _ => l.length - (intOf iv).toNat)
  case atStart => exact ⟨0, Nat.zero_le _, rfl, rfl, Ext.refl _⟩
  case round =>
    obtain ⟨k, hk, rfl, hp, hext⟩ := hrel
    have HP := Lib.hid hp
    have HE := Lib.hid hext
    clear hp
    by_cases hlt : k < l.length
    · have g1 : (k : Int) < (l.length : Int) := by omega
      have g0 : 0 ≤ (k : Int) := by omega
      have g1n : k < l.length := hlt
      have HLT := Lib.hid hlt
      obtain ⟨bA, oA, u0, rfl, c0, hu0⟩ := (InsR.ext HV.out hext).at_ hlt
      have HS := Lib.hid (show anyE p (l.take (k + 1)) = p l[k] by rw [anyE_s p l hlt, HP.out]; rfl)
      have HT := Lib.hid (show p l[k] = true → anyE p l = true from fun h => List.any_eq_true.2 ⟨_, List.getElem_mem hlt, h⟩)
      have HC := Lib.hid (HCL.out u0 l[k] wr (List.getElem_mem hlt) hext hu0)
      generalize l[k] = x at *
      obtain ⟨Au, cu, rfl⟩ := hu0.form
      clear hext hk hlt
      cases hd : p x with
      | true =>
        rw [hd] at HC
        have HR := Lib.hid (HT.out hd)
        clear hd
        go_wp2_with fail
        refine HC.out.mono ?_
        rintro e w1 ⟨rfl, he1⟩
        go_wp2
        go_ret
        exact ⟨HE.out.trans he1, .inr ⟨k, rfl, HR.out⟩⟩
      | false =>
        rw [hd] at HC HS
        clear hd
        go_wp2_with fail
        refine HC.out.mono ?_
        rintro e w1 ⟨rfl, he1⟩
        go_wp2
        exact ⟨⟨k + 1, HLT.out, by go_num, HS.out, HE.out.trans he1⟩, by have := HLT.out; simp [intOf]; omega⟩
    · obtain rfl : k = l.length := by omega
      have g1 : ¬ (l.length : Int) < (l.length : Int) := by omega
      rw [List.take_length] at HP
      clear hext
      go_wp2
      go_ret
      exact ⟨HE.out, .inl ⟨rfl, HP.out⟩⟩
set_option maxRecDepth 100000 in
set_option maxHeartbeats 1000000 in
theorem containsE_any (p : List Bag → Bool) (g : Nat) (lb : Array Value) (eg : ∀ args w, (callFunc g args).run Tryz.prog w = .ok (.enter g args) w) (v : Value) (l : List (List Bag)) (w : World) (hv : InsR w v l) (hl : l.length ≤ 1000000000)
    (hcl : ∀ u x W, x ∈ l → Ext w W → EpR W u x → Calls Tryz.prog g (#[u] ++ lb) W fun e W' => e = .returned (.bool (p x)) ∧ Ext W W') :
    Calls Tryz.prog 57 #[v, .func (.func g) #[] lb] w fun e w' => e = .returned (.bool (anyE p l)) ∧ Ext w w' := by
  have HI := Lib.hid (indexE_any p g lb eg v l w hv hl hcl)
  obtain ⟨A, c, rfl⟩ := hv.form
  clear hv hcl eg
  generalize anyE p l = a at *
  go_enter Tryz.func57, Tryz.ntmps57
  go_wp2_with fail
  refine HI.out.mono ?_
  rintro e w1 ⟨he1, ⟨rfl, rfl⟩ | ⟨k, rfl, rfl⟩⟩
  · go_wp2
    go_ret
    exact ⟨rfl, he1⟩
  · have g0 : 0 ≤ (k : Int) := by omega
    go_wp2
    go_ret
    exact ⟨rfl, he1⟩
def anyA (p : Sc.Act → Bool) (l : List (Sc.Act)) : Bool := l.any p
theorem anyA_s (p : Sc.Act → Bool) (l : List (Sc.Act)) {k : Nat} (h : k < l.length) : anyA p (l.take (k + 1)) = (anyA p (l.take k) || p l[k]) := by
  unfold anyA
  rw [List.take_succ_eq_append_getElem h, List.any_append]
  simp
set_option maxRecDepth 100000 in
set_option maxHeartbeats 2000000 in
theorem indexA_any (p : Sc.Act → Bool) (g : Nat) (lb : Array Value) (eg : ∀ args w, (callFunc g args).run Tryz.prog w = .ok (.enter g args) w) (v : Value) (l : List (Sc.Act)) (w : World) (hv : ActsR w v l) (hl : l.length ≤ 1000000000)
    (hcl : ∀ u x W, x ∈ l → Ext w W → RE W u x.2 → Calls Tryz.prog g (#[actAg x.1.1 x.1.2.1 x.1.2.2.1 x.1.2.2.2.1 x.1.2.2.2.2 u] ++ lb) W fun e W' => e = .returned (.bool (p x)) ∧ Ext W W') :
    Calls Tryz.prog 91 #[v, .func (.func g) #[] lb] w fun e w' => Ext w w' ∧ ((e = .returned (.int .i64 (-1)) ∧ anyA p l = false) ∨ ∃ k : Nat, e = .returned (.int .i64 (k : Int)) ∧ anyA p l = true) := by
  obtain ⟨A, c, rfl⟩ := hv.form
  have HV := Lib.hid hv
  have HCL := Lib.hid hcl
  clear hv hcl
  go_enter Tryz.func91, Tryz.ntmps91
  go_wp2
  go_loopw [8] (fun iv wr => ∃ k : Nat, k ≤ l.length ∧ iv = .int .i64 (k : Int) ∧ anyA p (l.take k) = false ∧ Ext w wr) (fun iv _ => l.length - (intOf iv).toNat)
  case atStart => exact ⟨0, Nat.zero_le _, rfl, rfl, Ext.refl _⟩
  case round =>
    obtain ⟨k, hk, rfl, hp, hext⟩ := hrel
    have HP := Lib.hid hp
    have HE := Lib.hid hext
    clear hp
    by_cases hlt : k < l.length
    · have g1 : (k : Int) < (l.length : Int) := by omega
      have g0 : 0 ≤ (k : Int) := by omega
      have g1n : k < l.length := hlt
      have HLT := Lib.hid hlt
      obtain ⟨bA, oA, u0, rfl, c0, c1, c2, c3, c4, c5, hu0⟩ := (ActsR.ext HV.out hext).at_ hlt
      have HS := Lib.hid (show anyA p (l.take (k + 1)) = p l[k] by rw [anyA_s p l hlt, HP.out]; rfl)
      have HT := Lib.hid (show p l[k] = true → anyA p l = true from fun h => List.any_eq_true.2 ⟨_, List.getElem_mem hlt, h⟩)
      have HC := Lib.hid (HCL.out u0 l[k] wr (List.getElem_mem hlt) hext hu0)
      generalize l[k] = x at *
      obtain ⟨Au, cu, rfl⟩ := hu0.form
      clear hext hk hlt
      cases hd : p x with
      | true =>
        rw [hd] at HC
        have HR := Lib.hid (HT.out hd)
        clear hd
        go_wp2_with fail
        refine HC.out.mono ?_
        rintro e w1 ⟨rfl, he1⟩
        go_wp2
        go_ret
        exact ⟨HE.out.trans he1, .inr ⟨k, rfl, HR.out⟩⟩
      | false =>
        rw [hd] at HC HS
        clear hd
        go_wp2_with fail
        refine HC.out.mono ?_
        rintro e w1 ⟨rfl, he1⟩
        go_wp2
        exact ⟨⟨k + 1, HLT.out, by go_num, HS.out, HE.out.trans he1⟩, by have := HLT.out; simp [intOf]; omega⟩
    · obtain rfl : k = l.length := by omega
      have g1 : ¬ (l.length : Int) < (l.length : Int) := by omega
      rw [List.take_length] at HP
      clear hext
      go_wp2
      go_ret
      exact ⟨HE.out, .inl ⟨rfl, HP.out⟩⟩
set_option maxRecDepth 100000 in
set_option maxHeartbeats 1000000 in
theorem containsA_any (p : Sc.Act → Bool) (g : Nat) (lb : Array Value) (eg : ∀ args w, (callFunc g args).run Tryz.prog w = .ok (.enter g args) w) (v : Value) (l : List (Sc.Act)) (w : World) (hv : ActsR w v l) (hl : l.length ≤ 1000000000)
    (hcl : ∀ u x W, x ∈ l → Ext w W → RE W u x.2 → Calls Tryz.prog g (#[actAg x.1.1 x.1.2.1 x.1.2.2.1 x.1.2.2.2.1 x.1.2.2.2.2 u] ++ lb) W fun e W' => e = .returned (.bool (p x)) ∧ Ext W W') :
    Calls Tryz.prog 58 #[v, .func (.func g) #[] lb] w fun e w' => e = .returned (.bool (anyA p l)) ∧ Ext w w' := by
  have HI := Lib.hid (indexA_any p g lb eg v l w hv hl hcl)
  obtain ⟨A, c, rfl⟩ := hv.form
  clear hv hcl eg
  generalize anyA p l = a at *
  go_enter Tryz.func58, Tryz.ntmps58
  go_wp2_with fail
  refine HI.out.mono ?_
  rintro e w1 ⟨he1, ⟨rfl, rfl⟩ | ⟨k, rfl, rfl⟩⟩
  · go_wp2
    go_ret
    exact ⟨rfl, he1⟩
  · have g0 : 0 ≤ (k : Int) := by omega
    go_wp2
    go_ret
    exact ⟨rfl, he1⟩
end Go.Proofs.YtpmgmiiidfconaaGreatDoor
