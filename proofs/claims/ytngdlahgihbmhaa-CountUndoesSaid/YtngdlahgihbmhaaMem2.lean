/-
  More words for memory: an append that leaves the slice as it read; worlds in which some blocks changed.
-/
import Derived.Test.YtngdlahgihbmhaaMem
namespace Go.Ox
open Go.RowKit
section
variable {P : Program} {t e : TypeId} {z : Value} {size bytes : Nat}
/-- the same; and the slice to which is appended reads behind it as before -/
theorem run_app_rd (el : Elem P t e z size bytes) (w : World) (ty : TypeId) (base : Nat) (v : Value) (n : Nat) (xs : List Value) (hown : w.ownsRow base e size v n xs)
    (A : Option Addr) (m c : Nat) (news : List Value) (hr : RdA w size A m c news) (h1 : ∀ u ∈ news, u.oneCell' = true)
    (hbytes : (n + m) * bytes ≤ 140737488355328) (hm : n + m ≤ maxLen) (hbase : base ≤ w.heap.size) :
    ∃ v' w', (Builtin.append_ #[t, t] ty #[v, .slice A m c]).run P w = .ok v' w' ∧ Appended w w' base e size v v' n m xs news ∧ Rd w' size v n xs := by
  obtain ⟨v', w', hrun, ha⟩ := run_app el w ty base v n xs hown A m c news hr h1 hbytes hm hbase
  refine ⟨v', w', hrun, ha, ?_⟩
  obtain ⟨i, hi, hz, hs, hb⟩ := el.info
  have hmx : n + m ≤ 9223372036854775807 := by simp only [maxLen] at hm; omega
  rcases hown.2 with ⟨rfl, rfl⟩ | ⟨g, cap, cur, rfl, hbg, hg, hnc, hcm, hcs, htake⟩
  · have hx : xs = [] := List.eq_nil_of_length_eq_zero (by simpa using hown.1)
    subst hx
    exact Rd.nil _ _
  · rcases A with _ | ad
    · have hm0 : m = 0 := by have := hr.nil rfl; have := hr.nc; omega
      subst hm0
      have hn : news = [] := List.eq_nil_of_length_eq_zero (by simpa using hr.len)
      subst hn
      have hq : (Builtin.append_ #[t, t] ty #[.slice (some ⟨g, 0, none⟩) n cap, .slice none 0 c]).run P w = .ok (.slice (some ⟨g, 0, none⟩) n cap) w := by
        simp [Builtin.append_, run_underlying el.under, sizeOf, typeInfo, hi, Builtin.lenOf, Builtin.firstCells, hnc, storeCells]
      rw [hq] at hrun
      injection hrun with _ h2
      subst h2
      exact Rd.of_own hown
    · have hcells : ∀ j u, news[j]? = some u → w.cell? (ad.add j) = some u := fun j u hu => by
        obtain ⟨hs', this⟩ := hr.at_ _ rfl j u hu
        obtain ⟨b, o, s⟩ := ad
        simp only at hs'; subst hs'
        unfold Addr.add
        split
        · rename_i h0; subst h0; simpa using this
        · exact this
      subst hs
      subst hb
      by_cases hroom : n + m ≤ cap
      · have hfit : n * i.size + news.length ≤ cur.size := by rw [hr.len, hcs, ← Nat.add_mul]; exact Nat.mul_le_mul_right _ hroom
        have hq := run_append_room (P := P) w t ty e i el.under hi g n cap cur hg ad m c news hr.len hcells h1 hroom hfit
        rw [hrun] at hq
        injection hq with h2 _
        have h3 := Rd.of_own ha.own
        rw [h2] at h3
        obtain ⟨A', c', he, h3⟩ := h3
        injection he with e1 e2 e3
        subst e1 e3
        have h4 := h3.take (k := n) (by omega)
        rw [List.take_left' (by rw [hown.1])] at h4
        exact ⟨_, _, rfl, h4⟩
      · have hq := run_append_grow (P := P) w t ty e i z el.under hi hz ⟨g, 0, none⟩ n cap xs hown.1 (hown.cells (g := g) rfl) ad m c news hr.len hcells (by omega) (by omega) (growslice_fits (by omega) hbytes)
        rw [hrun] at hq
        injection hq with _ h2
        subst h2
        exact (Rd.of_own hown).ext ((Ext.refl _).drew.alloc _)

theorem wpList_appR {ops : Array Oper} {rest : List Oper} {o : Oper} {a : Act} {Q : Exit → Act → World → Prop} (hgd : o.guard = none) (el : Elem P t e z size bytes) (w : World) (s x : Operand)
    (ho : o.op = .call { callee := .builtin .append, args := #[s, x], argTypes := #[t, t] })
    (base : Nat) (v : Value) (n : Nat) (xs : List Value) (hs : a.eval s = v) (hown : w.ownsRow base e size v n xs)
    (u : Value) (m : Nat) (news : List Value) (hx : a.eval x = u) (hr : Rd w size u m news) (h1 : ∀ u ∈ news, u.oneCell' = true)
    (hbytes : (n + m) * bytes ≤ 140737488355328) (hm : n + m ≤ maxLen) (hbase : base ≤ w.heap.size)
    (h : ∀ v' w', Appended w w' base e size v v' n m xs news → Rd w' size v n xs → wpList P ops Q rest (a.put o.dst v') w') : wpList P ops Q (o :: rest) a w := by
  refine wpList_plain hgd fun K hK => ?_
  obtain ⟨A, c, rfl, hr⟩ := hr
  obtain ⟨v', w', hrun, ha, hk⟩ := run_app_rd el w o.type base v n xs hown A m c news hr h1 hbytes hm hbase
  exact Go.Lib.wp_append_run w s x t t ho _ _ hs hx v' w' hrun (hK _ _ (h v' w' ha hk))
end
theorem Ext.bcell {W w1 : World} (hb : Ext W w1) : (∀ b o, b < W.heap.size → w1.cell? ⟨b, o, none⟩ = W.cell? ⟨b, o, none⟩) ∧ (∀ b o, b < W.heap.size → w1.frozen? ⟨b, o, none⟩ = W.frozen? ⟨b, o, none⟩) :=
  ⟨fun b o h => Below.cell hb (p := ⟨b, o, none⟩) h, fun b o h => Below.frozen hb (p := ⟨b, o, none⟩) h⟩
theorem RB.mk {w : World} {v : Value} {l : List UInt8} {n : Nat} {xs : List Value} (h : Rd w 1 v n xs) (hn : n = l.length) (hx : xs = l.map byteV) : RB w v l := by
  subst hn hx; exact h
/-- what two owners made, one behind the other, lies in blocks of its own -/
theorem own_apart {w1 w2 : World} {b1 b2 E1 E2 s1 s2 n1 n2 : Nat} {v1 v2 : Value} {xs1 xs2 : List Value} (h1 : w1.ownsRow b1 E1 s1 v1 n1 xs1) (h2 : w2.ownsRow b2 E2 s2 v2 n2 xs2) (hb : w1.heap.size ≤ b2) :
    ∀ k, v2.ownBlock = some k → v1.ownBlock ≠ some k := by
  intro k hk he
  have a := (h1.lt k he).2
  have b := (h2.lt k hk).1
  omega
theorem ownsRow_grown {w w' : World} {b E s n : Nat} {v : Value} {xs : List Value} {row : Option Nat} (h : w.ownsRow b E s v n xs) (hg : w.grownBy w' row) (hv : ∀ k, v.ownBlock = some k → row ≠ some k) : w'.ownsRow b E s v n xs :=
  h.kept hg (by
    cases hq : v.ownBlock with
    | none => simp
    | some k =>
      have := hv k hq
      simp
      intro e; exact this e.symm)
theorem OB.grown {E base : Nat} {w w' : World} {v : Value} {l : List UInt8} {row : Option Nat} (h : OB E base w v l) (hg : w.grownBy w' row) (hv : ∀ k, v.ownBlock = some k → row ≠ some k) : OB E base w' v l :=
  ownsRow_grown h hg hv

section
variable {P : Program} {Q : Exit → Act → World → Prop} {R : World → World → Prop} {a0 : Act} {w0 : World} {rest : List Planned} {fs : List (Tmp × Pred)} {d : Tmp} {o : Oper} {e : Tmp} {b : Bool}
/-- a guard whose slot was itself passed by -/
theorem wpM_skipU (hg : fs.find? (fun f => f.1 == e) = some (e, fun v _ => v = undef)) (hr : wpX P Q R a0 w0 rest ((d, fun v _ => v = undef) :: fs)) : wpX P Q R a0 w0 (⟨d, o, some (e, b)⟩ :: rest) fs := by
  unfold wpX at *
  refine ⟨_, ⟨fun v w w' h _ => h, fun a w hR => looksF_append _ _ ?_⟩, hr⟩
  have : LooksF fs a0 a w [e] (if wantedS (some (e, b)) a = true then o.wp P a w (fun a' w' => ∃ v, a' = a.put (some d) v ∧ R w w' ∧ v = undef) Q else undef = undef) := by
    show SlotF fs a0 a w e → _
    intro hs
    unfold SlotF at hs
    rw [show fs.find? (fun f => f.1 == e) = _ from hg] at hs
    have hs : a.tmps.getD e undef = undef := hs
    have hw : wantedS (some (e, b)) a = false := by
      unfold wantedS
      simp only [hs]
      rfl
    refine (if_neg (c := wantedS (some (e, b)) a = true) (by rw [hw]; simp)).mpr rfl
  generalize opTmps o = ts
  induction ts with
  | nil => exact this
  | cons t ts ih => exact fun _ => ih
end
end Go.Ox
