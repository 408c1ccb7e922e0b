/-
  The statements of layer 4: MomentKeeps.
-/
import Derived.Test.YtbcbhcohfbkijaaMomLives
namespace Go.Proofs.Ytbcbhcohfbkijaa
open Go.RowKit Go.Ox Go.Shelf
attribute [local irreducible] OP RP OB RB
set_option linter.unusedSimpArgs false
set_option linter.unusedVariables false

/-- two boxes -/
structure F2 (w : World) (n : Nat) (T0 T1 : TypeId) (a b c d : Value) : Prop where
  b0 : Blk w n T0 #[a, b]
  b1 : Blk w (n + 1) T1 #[c, d]
theorem F2.new (w : World) (T0 T1 : TypeId) (a b c d : Value) : F2 ((w.alloc (.cells #[a, b] T0)).alloc (.cells #[c, d] T1)) w.heap.size T0 T1 a b c d := by
  have hn1 : (w.alloc (.cells #[a, b] T0)).heap.size = w.heap.size + 1 := by simp
  have h2 := Blk.new (w.alloc (.cells #[a, b] T0)) T1 #[c, d]
  rw [hn1] at h2
  exact ⟨(Blk.new w T0 #[a, b]).ext ((Ext.refl _).alloc _), h2⟩
theorem F2.ext {w w' : World} {n : Nat} {T0 T1 : TypeId} {a b c d : Value} (h : F2 w n T0 T1 a b c d) (he : Ext w w') : F2 w' n T0 T1 a b c d := ⟨h.b0.ext he, h.b1.ext he⟩
theorem F2.cells {w : World} {n : Nat} {T0 T1 : TypeId} {a b c d : Value} (h : F2 w n T0 T1 a b c d) : w.cell? ⟨n, 0, none⟩ = some a ∧ w.cell? ⟨n, 1, none⟩ = some b ∧ w.cell? ⟨n + 1, 0, none⟩ = some c ∧ w.cell? ⟨n + 1, 1, none⟩ = some d :=
  ⟨h.b0.cell 0, h.b0.cell 1, h.b1.cell 0, h.b1.cell 1⟩

set_option maxRecDepth 100000 in
set_option maxHeartbeats 1000000 in
theorem keeps_long (v : Value) (l : List Mom.M) (a b : Mom.M) (w : World) (hv : RP w v l) (hl : 200 < l.length) :
    Calls Try.prog 6 #[v, mV a, mV b] w fun e w' => e = .returned (.bool true) ∧ Ext w w' := by
  obtain ⟨A, c, rfl⟩ := hv.form
  have g : (200 : Int) < (l.length : Int) := by omega
  have HX := Lib.hid (((Ext.refl w).alloc (.cells #[.int .i64 a.1, .int .i64 a.2] 23)).alloc (.cells #[.int .i64 b.1, .int .i64 b.2] 23))
  clear hv hl
  obtain ⟨a1, a2⟩ := a
  obtain ⟨b1, b2⟩ := b
  go_enter Try.func6, Try.ntmps6
  go_wp2_with fail
  refine (lives_any _).mono ?_
  rintro e w1 ⟨rfl, he1⟩
  go_wp2_with fail
  go_ret
  exact ⟨rfl, HX.out.trans he1⟩

set_option maxRecDepth 100000 in
set_option maxHeartbeats 1000000 in
theorem keeps_err (v : Value) (l : List Mom.M) (a b : Mom.M) (k : Int) (w : World) (hk : (k != 0) = true) (hl : l.length ≤ 200) (hv : RP w v l)
    (hf : ∀ w, RP w v l → Calls Try.prog 20 #[v] w fun e w' => e = .returned (.tuple #[.slice none 0 0, .int .i64 k]) ∧ Ext w w') :
    Calls Try.prog 6 #[v, mV a, mV b] w fun e w' => e = .returned (.bool true) ∧ Ext w w' := by
  have g : ¬ (200 : Int) < (l.length : Int) := by omega
  have HX := Lib.hid (((Ext.refl w).alloc (.cells #[.int .i64 a.1, .int .i64 a.2] 23)).alloc (.cells #[.int .i64 b.1, .int .i64 b.2] 23))
  have HF := Lib.hid (hf _ (hv.ext HX.out))
  obtain ⟨A, c, rfl⟩ := hv.form
  clear hv hl hf
  obtain ⟨a1, a2⟩ := a
  obtain ⟨b1, b2⟩ := b
  go_enter Try.func6, Try.ntmps6
  go_wp2_with fail
  refine HF.out.mono ?_
  rintro e w1 ⟨rfl, he1⟩
  go_wp2_with fail
  refine (lives_any _).mono ?_
  rintro e w2 ⟨rfl, he2⟩
  go_wp2_with fail
  refine (lives_any _).mono ?_
  rintro e w3 ⟨rfl, he3⟩
  go_wp2_with fail
  go_ret
  exact ⟨rfl, ((HX.out.trans he1).trans he2).trans he3⟩

instance (a b : Mom.M) : Decidable (Mom.lt a b) := by unfold Mom.lt; infer_instance
theorem sorted_ex (l : List Mom.M) : ∃ s : List Mom.M, s.Perm l ∧ s.Pairwise fun a b => ¬ Mom.lt b a := by
  refine ⟨l.mergeSort (fun a b => decide (¬ Mom.lt b a)), List.mergeSort_perm l _, ?_⟩
  have h := List.pairwise_mergeSort (le := fun a b : Mom.M => decide (¬ Mom.lt b a)) (fun a b c h1 h2 => by
      simp only [decide_eq_true_eq] at *
      unfold Mom.lt at *; omega) (fun a b => by
      simp only [Bool.or_eq_true, decide_eq_true_eq]
      unfold Mom.lt at *; omega) l
  exact h.imp fun h => by simpa using h
theorem rfront_ex (l : List Mom.M) : ∃ s : List Mom.M, s.Perm l ∧ (s.Pairwise fun a b => ¬ Mom.lt b a) ∧ Mom.rfront l = Mom.front s := by
  obtain ⟨s, hp, hs⟩ := sorted_ex l
  exact ⟨s, hp, hs, (Mom.front_eq hs fun k => hp.mem_iff.symm).symm⟩
theorem rfront_idem (l : List Mom.M) : Mom.rfront (Mom.rfront l) = Mom.rfront l := by
  obtain ⟨s, hp, hs, he⟩ := rfront_ex l
  obtain ⟨t, hq, ht, hf⟩ := rfront_ex (Mom.rfront l)
  rw [hf, he]
  rw [he] at hq
  exact Mom.front_front hs ht fun k => hq.mem_iff
theorem rfront_mem {l : List Mom.M} {m : Mom.M} (h : m ∈ Mom.rfront l) : m ∈ l := by
  obtain ⟨s, hp, hs, he⟩ := rfront_ex l
  rw [he] at h
  exact hp.mem_iff.1 ((Mom.mem_front hs m).1 h).1
theorem rfront_len (l : List Mom.M) : (Mom.rfront l).length ≤ l.length := by
  obtain ⟨s, hp, hs, he⟩ := rfront_ex l
  rw [he]
  have h1 := front_len s []
  have h2 := hp.length_eq
  simp only [List.length_nil] at h1
  unfold Mom.front
  omega
theorem rfront_ok {l : List Mom.M} (h : (l.any fun x => !Mom.ok x) = false) : ((Mom.rfront l).any fun x => !Mom.ok x) = false := by
  rw [List.any_eq_false] at h ⊢
  exact fun x hx => h x (rfront_mem hx)
theorem covers_rfront (l : List Mom.M) (m : Mom.M) : Mom.covers (Mom.rfront l) m = Mom.covers l m := by
  obtain ⟨s, hp, hs, he⟩ := rfront_ex l
  rw [he]
  exact Mom.covers_front hs (fun k => hp.mem_iff.symm) m

/-- Front, where all may be and there are not many -/
theorem front_few (v : Value) (l : List Mom.M) (w : World) (hv : RP w v l) (hl : l.length ≤ 256) (hb : (l.any fun x => !Mom.ok x) = false) :
    Calls Try.prog 20 #[v] w fun e w' => ∃ v', e = .returned (.tuple #[v', .int .i64 0]) ∧ RP w' v' (Mom.rfront l) ∧ Ext w w' := by
  refine (front_good v l w hv (by omega) hb).mono ?_
  rintro e w' ⟨hx, ⟨hlt, _⟩ | ⟨_, v', rfl, ho⟩⟩
  · have := rfront_len l; omega
  · exact ⟨v', rfl, ho.rp, hx⟩

set_option maxRecDepth 100000 in
set_option maxHeartbeats 1000000 in
theorem keeps_ok (v : Value) (l : List Mom.M) (a b : Mom.M) (w : World) (hl : l.length ≤ 200) (hv : RP w v l) (hb : (l.any fun x => !Mom.ok x) = false) (x y z : Bool)
    (hx : Mom.covers (Mom.rfront l) a = x) (hy : Mom.ahead a b = y) (hz : Mom.covers (Mom.rfront l) b = z) (hr : (!x || (!y || z)) = true) :
    Calls Try.prog 6 #[v, mV a, mV b] w fun e w' => e = .returned (.bool true) ∧ Ext w w' := by
  have g : ¬ (200 : Int) < (l.length : Int) := by omega
  have HW := Lib.hid ((F2.new w 23 23 (.int .i64 a.1) (.int .i64 a.2) (.int .i64 b.1) (.int .i64 b.2)))
  have HX := Lib.hid (((Ext.refl w).alloc (.cells #[.int .i64 a.1, .int .i64 a.2] 23)).alloc (.cells #[.int .i64 b.1, .int .i64 b.2] 23))
  have HF := Lib.hid (front_few v l _ (hv.ext HX.out) (by omega) hb)
  have hlen := rfront_len l
  have HA := Lib.hid (fun w => ahead_any a b w)
  have HG := Lib.hid (fun (u : Value) (w : World) (hu : RP w u (Mom.rfront l)) => front_few u (Mom.rfront l) w hu (by omega) (rfront_ok hb))
  have HC1 := Lib.hid (fun (u : Value) (w : World) (hu : RP w u (Mom.rfront l)) => covers_any u (Mom.rfront l) a w hu (by omega))
  have HC2 := Lib.hid (fun (u : Value) (w : World) (hu : RP w u (Mom.rfront l)) => covers_any u (Mom.rfront l) b w hu (by omega))
  rw [rfront_idem] at HG
  rw [hx] at HC1
  rw [hz] at HC2
  rw [hy] at HA
  obtain ⟨A, c, rfl⟩ := hv.form
  clear hv hl hb hx hy hz hlen
  obtain ⟨a1, a2⟩ := a
  obtain ⟨b1, b2⟩ := b
  generalize Mom.rfront l = f at *
  go_enter Try.func6, Try.ntmps6
  go_wp2_with fail
  refine HF.out.mono ?_
  rintro e w1 ⟨v1, rfl, hr1, he1⟩
  have HR1 := Lib.hid hr1
  have HW1 := Lib.hid (HW.out.ext he1)
  have HX1 := Lib.hid (HX.out.trans he1)
  obtain ⟨A1, k1, rfl⟩ := hr1.form
  clear hr1 he1 HW HX
  go_wp2_with fail
  refine (lives_any _).mono ?_
  rintro e w2 ⟨rfl, he2⟩
  have HR2 := Lib.hid (HR1.out.ext he2)
  have HW2 := Lib.hid (HW1.out.ext he2)
  have HX2 := Lib.hid (HX1.out.trans he2)
  clear he2 HW1 HX1 HR1
  go_wp2_with fail
  refine (HG.out _ _ HR2.out).mono ?_
  rintro e w3 ⟨v3, rfl, hr3, he3⟩
  have HR3 := Lib.hid (HR2.out.ext he3)
  have HS3 := Lib.hid hr3
  have HW3 := Lib.hid (HW2.out.ext he3)
  have HX3 := Lib.hid (HX2.out.trans he3)
  obtain ⟨A3, k3, rfl⟩ := hr3.form
  clear he3 HW2 HX2 HR2 hr3
  go_wp2_with fail
  refine (same_any _ _ f f _ HR3.out HS3.out).mono ?_
  rintro e w4 ⟨rfl, he4⟩
  rw [decide_eq_true rfl]
  have HR4 := Lib.hid (HR3.out.ext he4)
  have HW4 := Lib.hid (HW3.out.ext he4)
  have HX4 := Lib.hid (HX3.out.trans he4)
  clear he4 HW3 HX3 HR3 HS3
  obtain ⟨c0, c1, c2, c3⟩ := HW4.out.cells
  go_wp2_with fail
  refine (HC1.out _ _ HR4.out).mono ?_
  rintro e w5 ⟨rfl, he5⟩
  have HR5 := Lib.hid (HR4.out.ext he5)
  have HW5 := Lib.hid (HW4.out.ext he5)
  have HX5 := Lib.hid (HX4.out.trans he5)
  clear he5 HW4 HX4 HR4 c0 c1 c2 c3
  obtain ⟨c0, c1, c2, c3⟩ := HW5.out.cells
  cases x with
  | false =>
    go_wp2_with fail
    go_ret
    exact ⟨rfl, HX5.out⟩
  | true =>
  go_wp2_with fail
  refine (HA.out _).mono ?_
  rintro e w6 ⟨rfl, he6⟩
  have HR6 := Lib.hid (HR5.out.ext he6)
  have HW6 := Lib.hid (HW5.out.ext he6)
  have HX6 := Lib.hid (HX5.out.trans he6)
  clear he6 HW5 HX5 HR5 c0 c1 c2 c3
  obtain ⟨c0, c1, c2, c3⟩ := HW6.out.cells
  cases y with
  | false =>
    go_wp2_with fail
    go_ret
    exact ⟨rfl, HX6.out⟩
  | true =>
  go_wp2_with fail
  refine (HC2.out _ _ HR6.out).mono ?_
  rintro e w7 ⟨rfl, he7⟩
  go_wp2_with fail
  go_ret
  exact ⟨by simpa using hr, HX6.out.trans he7⟩

theorem keeps_any (v : Value) (l : List Mom.M) (a b : Mom.M) (w : World) (hv : RP w v l) :
    Calls Try.prog 6 #[v, mV a, mV b] w fun e w' => e = .returned (.bool true) ∧ Ext w w' := by
  by_cases h1 : 200 < l.length
  · exact keeps_long v l a b w hv h1
  cases hb : l.any fun x => !Mom.ok x with
  | true => exact keeps_err v l a b 40 w (by decide) (by omega) hv fun w hv => front_bad v l w hv (by omega) hb
  | false =>
    refine keeps_ok v l a b w (by omega) hv hb _ _ _ rfl rfl rfl ?_
    cases h2 : Mom.covers (Mom.rfront l) a with
    | false => rfl
    | true =>
      cases h3 : Mom.ahead a b with
      | false => rfl
      | true => rw [Mom.covers_mono h2 h3]; rfl
theorem momentKeeps_law (w : World) (v : Value) (l : List Mom.M) (hv : RP w v l) (u : Value) (a : Mom.M) (hu : u = mV a) (x : Value) (b : Mom.M) (hx : x = mV b) :
    Calls Try.prog 6 #[v, u, x] w fun e w' => e = .returned (.bool true) ∧ Ext w w' := by
  subst hu hx
  exact keeps_any v l a b w hv
end Go.Proofs.Ytbcbhcohfbkijaa
