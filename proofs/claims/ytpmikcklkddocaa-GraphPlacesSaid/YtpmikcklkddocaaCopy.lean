/-
  The builtin copy into bytes of the call's own.
-/
import Derived.Test.YtpmikcklkddocaaMem
import Derived.Laws.CopyOwn
namespace Go.Ox
open Go.RowKit

theorem splice_take {α : Type} (L : List α) (n off : Nat) (cs : List α) (h : off + cs.length ≤ n) (hn : n ≤ L.length) :
    (L.take off ++ (cs ++ L.drop (off + cs.length))).take n = (L.take n).take off ++ (cs ++ (L.take n).drop (off + cs.length)) := by
  have hA : (L.take off).length = off := by rw [List.length_take]; omega
  rw [List.take_append, hA, List.take_of_length_le (by omega : (L.take off).length ≤ n), List.take_append, List.take_of_length_le (by omega : cs.length ≤ n - off), List.take_take, Nat.min_eq_left (by omega), List.drop_take]
  rw [show n - off - cs.length = n - (off + cs.length) by omega]

section
variable {P : Program} {t e : TypeId} {z : Value} {bytes : Nat}
/-- bytes are copied into bytes of the call's own, from the place 'off' on -/
theorem wpList_copyB {ops : Array Oper} {rest : List Oper} {o : Oper} {a : Act} {Q : Exit → Act → World → Prop} (hgd : o.guard = none) (el : Elem P t e z 1 bytes) (w : World) (d s : Operand)
    (ho : o.op = .call { callee := .builtin .copy, args := #[d, s], argTypes := #[t, t] })
    (base g n c off : Nat) (l : List UInt8) (hown : OB e base w (.slice (some ⟨g, 0, none⟩) n c) l)
    (dp : Option Addr) (dLen dCap : Nat) (hd : a.eval d = .slice dp dLen dCap) (hl : off + dLen ≤ l.length) (m : List UInt8) (hm : m.length ≤ dLen) (hdp : 0 < m.length → dp = some ⟨g, off, none⟩)
    (vs : Value) (hs : a.eval s = vs) (hsrc : RB w vs m)
    (h : ∀ w', OB e base w' (.slice (some ⟨g, 0, none⟩) n c) (l.take off ++ (m ++ l.drop (off + m.length))) → w.grownBy w' (some g) → wpList P ops Q rest (a.put o.dst (goInt m.length)) w') : wpList P ops Q (o :: rest) a w := by
  obtain ⟨A, sc, rfl, hr⟩ := hsrc
  obtain ⟨i, hi, hz, hsz, hb⟩ := el.info
  have hsz' : (P.info? e).map (·.size) = some 1 := by rw [hi]; simp [hsz]
  by_cases h0 : m.length = 0
  · have hm0 := List.eq_nil_of_length_eq_zero h0
    subst hm0
    refine wpList_copy_nothing hgd d s t t ho e el.under hsz' dp A dLen dCap _ sc hd hs (by simp) ?_
    exact h w (by simpa using hown) (World.grownBy.refl w _)
  · have hdp' := hdp (by omega)
    subst hdp'
    obtain ⟨b, o', rfl⟩ := hr.addr (by omega)
    have ho2 := hown.own
    obtain ⟨A', c', hf⟩ := hown.form
    injection hf with f1 f2 f3
    subst f2
    rcases ho2.2 with ⟨hv, _⟩ | ⟨g', cap, cur, he, hbg, hh, hnc, hcm, hcs, ht⟩
    · cases hv
    · injection he with e1 e2 e3
      injection e1 with e1
      injection e1 with e1
      subst e1 e3
      have hcur : l.length ≤ cur.size := by rw [hcs]; omega
      refine wpList_copy_own hgd d s t t ho e el.under hsz' g off dLen dCap ⟨b, o', none⟩ m.length sc hd hs cur e hh (m.map byteV) (by simp [Nat.min_eq_left hm]) (fun j v hj => ?_) (by simp; omega) (one_byteV m) ?_
      · have := hr.get hj
        unfold Addr.add
        split
        · rename_i hj0; subst hj0; simpa using this
        · exact this
      · rw [List.length_map]
        refine h _ ?_ ⟨rfl, rfl, rfl, by simp, fun k _ hk => setRow_other w g k _ (fun e => hk (by rw [e]))⟩
        have hlen : (l.take off ++ (m ++ l.drop (off + m.length))).length = l.length := by simp; omega
        unfold OB
        rw [hlen]
        refine ⟨by rw [List.length_map, hlen]; omega, .inr ⟨g, c, _, rfl, hbg, setRow_heap w g cur _ e (0, 0) hh, hnc, hcm, ?_, ?_⟩⟩
        · simp; omega
        · have hsp := splice_take cur.toList l.length off (m.map byteV) (by simp; omega) (by simpa using hcur)
          rw [Nat.mul_one] at ht ⊢
          rw [ht] at hsp
          simp only [List.length_map] at hsp
          rw [List.toList_toArray, hsp]
          simp [List.map_take, List.map_drop]
/-- bytes are appended to bytes of the call's own -/
theorem wpList_appBB {ops : Array Oper} {rest : List Oper} {o : Oper} {a : Act} {Q : Exit → Act → World → Prop} (hgd : o.guard = none) (el : Elem P t e z 1 1) (w0 w : World) (s x : Operand)
    (ho : o.op = .call { callee := .builtin .append, args := #[s, x], argTypes := #[t, t] })
    (v : Value) (l : List UInt8) (hs : a.eval s = v) (hown : OB e w0.heap.size w v l) (hext : Ext w0 w) (vx : Value) (m : List UInt8) (hx : a.eval x = vx) (hr : RB w vx m) (hlen : l.length + m.length ≤ 1000000000)
    (h : ∀ v' w', OB e w0.heap.size w' v' (l ++ m) → Ext w0 w' → w.grownBy w' v.ownBlock → wpList P ops Q rest (a.put o.dst v') w') : wpList P ops Q (o :: rest) a w :=
  wpList_app hgd el w s x ho w0.heap.size v l.length (l.map byteV) hs hown.own vx m.length (m.map byteV) hx hr.rd (one_byteV m) (by omega) (by unfold maxLen; omega) hext.size
    fun v' w' ha => h v' w' (OB.app ha.own) (ha.ext hext rfl hown.own) ha.grown
theorem OB.emptyL (w : World) (E : Nat) : OB E w.heap.size (w.alloc (.cells #[] E)) (.slice (some ⟨w.heap.size, 0, none⟩) 0 0) [] :=
  World.ownsRow_lit w #[] 0 (Nat.le_refl _) (by unfold maxLen; omega) rfl
theorem OB.nilO (w : World) (E base : Nat) : OB E base w (.slice none 0 0) [] := World.ownsRow_nil _ _ _ _
theorem RB.lit1 (w : World) (E : Nat) (u : Value) (b : UInt8) (h : byteV b = u) : RB (w.alloc (.cells #[u] E)) (.slice (some ⟨w.heap.size, 0, none⟩) 1 1) [b] :=
  RB.lit w #[u] E [b] 1 rfl (by omega) (by simp [h])
end
end Go.Ox
