/-
  LaNext, packed: what the claim needs of them.
-/
import Derived.Test.YtpmgmiiidfconaaGreatDoorPz19
set_option linter.unusedVariables false
set_option linter.unusedSimpArgs false
namespace Go.Ox.La
open Go Go.Lib Go.Ox Go.RowKit
/-- the words that are left, in block p; their row lies in w0 -/
structure WsR (T : TypeId) (w0 w : World) (p : Nat) (l : List W) (bad : Bool) : Prop where
  low : w0.heap.size ≤ p
  x : Ext w0 w
  b : ∃ A c, RE w0 (.slice A l.length c) l ∧ Blk w p T #[.slice A l.length c, .bool bad]
theorem WsR.q {T : TypeId} {w0 w w' : World} {p : Nat} {l : List W} {bad : Bool} (h : WsR T w0 w p l bad) {Q : Nat → Prop} (he : ExtQ Q w w') (hq : ¬ Q p) (hl : ∀ k, Q k → w0.heap.size ≤ k) : WsR T w0 w' p l bad := by
  obtain ⟨A, c, h1, h2⟩ := h.b
  exact ⟨h.low, h.x.andQ he hl, A, c, h1, h2.extQ he hq⟩
theorem WsR.e {T : TypeId} {w0 w w' : World} {p : Nat} {l : List W} {bad : Bool} (h : WsR T w0 w p l bad) (he : Ext w w') : WsR T w0 w' p l bad := by
  obtain ⟨A, c, h1, h2⟩ := h.b
  exact ⟨h.low, h.x.trans he, A, c, h1, h2.ext he⟩
end Go.Ox.La
namespace Go.Proofs.YtpmgmiiidfconaaGreatDoor
open Go.RowKit Go.Ox Go.Ox.Gr Go.Ox.Sc Go.Ox.La Go.Shelf
attribute [local irreducible] RE OE
set_option maxRecDepth 100000 in
set_option maxHeartbeats 4000000 in
theorem wnext_any (w0 : World) (p : Nat) (l : List W) (bad : Bool) (w : World) (h : WsR 60 w0 w p l bad) :
    Calls Tryz.prog 45 #[.pointer (some ⟨p, 0, none⟩)] w fun e w' => e = .returned (strV (l.headD [])) ∧ WsR 60 w0 w' p l.tail (bad || l.isEmpty) ∧ ExtQ (fun k => k = p) w w' := by
  obtain ⟨hlow, hx, A, c, hr, hb⟩ := h
  have HL := Lib.hid hlow
  have HX := Lib.hid hx
  have HB := Lib.hid hb
  have c0 : w.cell? ⟨p, 0, none⟩ = some (.slice A l.length c) := (hb.cell 0).trans rfl
  have c1 : w.cell? ⟨p, 1, none⟩ = some (.bool bad) := (hb.cell 1).trans rfl
  have f0 : w.frozen? ⟨p, 0, none⟩ = false := hb.frozen 0
  have f1 : w.frozen? ⟨p, 1, none⟩ = false := hb.frozen 1
  clear hlow hx hb
  cases l with
  | nil =>
    have HR := Lib.hid hr
    clear hr
    go_enter Tryz.func45, Tryz.ntmps45
    go_wp2
    go_ret
    have hq : ExtQ (fun k => k = p) w (w.setCell ⟨p, 1, none⟩ (.bool true)) := ExtQ.setCell (Q := fun k => k = p) (ExtQ.refl _ _) (p := ⟨p, 1, none⟩) rfl _
    refine ⟨rfl, ⟨HL.out, HX.out.andQ hq (fun k hk => by have := HL.out; omega), A, c, HR.out, ?_⟩, hq⟩
    have := HB.out.set_ 1 (.bool true)
    simpa using this
  | cons x rest =>
    obtain ⟨A1, hlo, hr1⟩ := lo1 elemW hr (by simp)
    rw [show (x :: rest).length - 1 = rest.length from by simp] at hlo hr1
    have HR1 := Lib.hid hr1
    obtain ⟨b, o, rfl, hx⟩ := reW1 (RE.ext hr HX.out) (k := 0) (by simp)
    rw [Nat.add_zero] at hx
    have hx : w.cell? ⟨b, o, none⟩ = some (strV x) := hx
    obtain ⟨n, hn⟩ : ∃ n, (x :: rest).length = n := ⟨_, rfl⟩
    rw [hn] at hlo c0 HB
    have q0 : ¬ (n : Int) = 0 := by rw [← hn]; simp; omega
    have q1 : ¬ n = 0 := by rw [← hn]; simp
    have q2 : (0 : Int) < (n : Int) := by omega
    clear hn hr hr1
    go_enter Tryz.func45, Tryz.ntmps45
    go_wp2
    go_ret
    have hq : ExtQ (fun k => k = p) w (w.setCell ⟨p, 0, none⟩ (.slice A1 rest.length (c - 1))) := ExtQ.setCell (Q := fun k => k = p) (ExtQ.refl _ _) (p := ⟨p, 0, none⟩) rfl _
    refine ⟨rfl, ⟨HL.out, HX.out.andQ hq (fun k hk => by have := HL.out; omega), A1, c - 1, HR1.out, ?_⟩, hq⟩
    have := HB.out.set_ 0 (.slice A1 rest.length (c - 1))
    simpa using this
set_option maxRecDepth 100000 in
set_option maxHeartbeats 4000000 in
theorem wnumber_any (w0 : World) (p : Nat) (l : List W) (bad : Bool) (w : World) (h : WsR 60 w0 w p l bad) (hw : ∀ x ∈ l, x.length ≤ 1000000) :
    Calls Tryz.prog 82 #[.pointer (some ⟨p, 0, none⟩)] w fun e w' => e = .returned (.int .i64 (wnB (l.headD [])).1) ∧ WsR 60 w0 w' p l.tail (bad || !(wnB (l.headD [])).2) ∧ ExtQ (fun k => k = p) w w' := by
  have HC := Lib.hid (fun w h => wnext_any w0 p l bad w h)
  have HH := Lib.hid h
  have HD := Lib.hid (fun w => wnum_any (l.headD []) w (by cases l with | nil => simp | cons x r => exact hw x (List.mem_cons_self ..)))
  have HE := Lib.hid (show l.isEmpty = true → (wnB (l.headD [])).2 = false from fun h => by cases l with | nil => rfl | cons x r => simp at h)
  generalize l.headD [] = x at *
  generalize wnB x = nb at *
  obtain ⟨n, y⟩ := nb
  generalize l.isEmpty = em at *
  generalize l.tail = tl at *
  obtain ⟨z, hz⟩ : ∃ z, (bad || !y) = z := ⟨_, rfl⟩
  have HZ := Lib.hid hz
  show Calls _ _ _ _ fun e w' => e = .returned (.int .i64 n) ∧ WsR 60 w0 w' p tl (bad || !y) ∧ ExtQ (fun k => k = p) w w'
  rw [hz]
  clear h hw hz
  go_enter Tryz.func82, Tryz.ntmps82
  go_wp2_with fail
  refine (HC.out _ HH.out).mono ?_
  rintro e w1 ⟨rfl, hh, he⟩
  have HH1 := Lib.hid hh
  have HQ1 := Lib.hid he
  obtain ⟨hlow, hx, A, c, hr, hb⟩ := hh
  have HLW := Lib.hid hlow
  have HX := Lib.hid hx
  have HR := Lib.hid hr
  have HB := Lib.hid hb
  have HBE := Lib.hid (show (bad || em || !y) = z from by
    rw [← HZ.out]
    cases em with
    | false => simp
    | true => rw [show y = false from HE.out rfl]; simp)
  generalize (bad || em) = bm at *
  clear hlow hx hr hb he
  go_wp2_with fail
  refine (HD.out _).mono ?_
  rintro e w2 ⟨rfl, rfl⟩
  have c1 : w1.cell? ⟨p, 1, none⟩ = some (.bool bm) := (HB.out.cell 1).trans rfl
  have f1 : w1.frozen? ⟨p, 1, none⟩ = false := HB.out.frozen 1
  have hq : ExtQ (fun k => k = p) w1 (w1.setCell ⟨p, 1, none⟩ (.bool z)) := ExtQ.setCell (Q := fun k => k = p) (ExtQ.refl _ _) (p := ⟨p, 1, none⟩) rfl _
  have HQ2 := Lib.hid hq
  have HF := Lib.hid (show Blk (w1.setCell ⟨p, 1, none⟩ (.bool z)) p 60 #[.slice A tl.length c, .bool z] from by simpa using HB.out.set_ 1 (.bool z))
  clear hq
  cases bm <;> cases y
  all_goals
    cases z <;> first | (exact absurd HBE.out (by decide)) | skip
  all_goals
    go_wp2
    go_ret
    exact ⟨rfl, ⟨HLW.out, HX.out.andQ HQ2.out (fun k hk => by have h1 : k = p := hk; have := HLW.out; omega), A, c, HR.out, HF.out⟩, HQ1.out.trans HQ2.out⟩
end Go.Proofs.YtpmgmiiidfconaaGreatDoor
