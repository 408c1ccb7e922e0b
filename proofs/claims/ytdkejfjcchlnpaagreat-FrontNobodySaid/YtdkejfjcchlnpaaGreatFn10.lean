/-
  PlCmp, Open, Flat, packed: what the claim needs of them.
-/
import Derived.Test.YtdkejfjcchlnpaaGreatFn09
import Derived.ProofKit
import Derived.OpenShut
import Derived.ShutString
import Derived.Deep.Slices
set_option maxHeartbeats 40000000
open Go.Lib (hid)
set_option linter.unusedSimpArgs false
set_option linter.unusedVariables false
set_option maxRecDepth 100000
namespace Go.Ox.Pl
end Go.Ox.Pl
namespace Go.Proofs.YtdkejfjcchlnpaaGreat
open Go.RowKit Go.Ox Go.Shelf Go.Sort Mo
theorem box6 (w : World) (T : TypeId) (a b c d e f a' b' c' d' e' f' : Value) : ∃ w2, w2 = (w.alloc (.cells #[a, b, c, d, e, f] T)).alloc (.cells #[a', b', c', d', e', f'] T) ∧ a02 w w2 ∧
 w2.cell? ⟨w.heap.size, 0, none⟩ = some a ∧ w2.cell? ⟨w.heap.size, 1, none⟩ = some b ∧ w2.cell? ⟨w.heap.size, 2, none⟩ = some c ∧ w2.cell? ⟨w.heap.size, 3, none⟩ = some d ∧
 w2.cell? ⟨w.heap.size + 1, 0, none⟩ = some a' ∧ w2.cell? ⟨w.heap.size + 1, 1, none⟩ = some b' ∧ w2.cell? ⟨w.heap.size + 1, 2, none⟩ = some c' ∧ w2.cell? ⟨w.heap.size + 1, 3, none⟩ = some d' := by
 have h1 := (Blk.new w T #[a, b, c, d, e, f]).ext ((Ext.refl _).alloc (.cells #[a', b', c', d', e', f'] T));have h2 := Blk.new (w.alloc (.cells #[a, b, c, d, e, f] T)) T #[a', b', c', d', e', f'];have hs : (w.alloc (.cells #[a, b, c, d, e, f] T)).heap.size = w.heap.size + 1 := by simp
 rw [hs] at h2;exact ⟨_, rfl, ((a02.refl _).alloc _).alloc _, h1.cell 0, h1.cell 1, h1.cell 2, h1.cell 3, h2.cell 0, h2.cell 1, h2.cell 2, h2.cell 3⟩
theorem a47 (a b : Mom.M) (w : World) : Calls Tryz.prog 172 #[mV a, mV b] w fun e w' => e = .returned (.int .i64 (Mom.cmp a b)) ∧ a02 w w' := by
 have HC := hid (b3j a b);obtain ⟨a1, a2⟩ := a;obtain ⟨b1, b2⟩ := b;dsimp only at *
 go_enter Tryz.func172, Tryz.ntmps172
 go_wp2
 have hb := a7F w 27 27 (.int .i64 a1) (.int .i64 a2) (.int .i64 b1) (.int .i64 b2);obtain ⟨c1, c2, c3, c4⟩ := hb;generalize hw2 : ((w.alloc (.cells #[.int .i64 a1, .int .i64 a2] 27)).alloc (.cells #[.int .i64 b1, .int .i64 b2] 27)) = w2 at *;have hx : a02 w w2 := by rw [← hw2]; exact ((a02.refl _).alloc _).alloc _
 clear hw2;refine a1m [] [] a02 a02 (fun _ => True) (by kernel_rfl) (by rfl) (by rfl) (by kernel_rfl) (by kernel_rfl) (by kernel_rfl) (fun _ _ _ x y => x.trans y) a02.refl (fun _ _ x => x) (a02.refl _).drew (fun _ _ x _ => x) trivial ?_
 refine ya ?_;refine yl1 c1 ?_;refine ya ?_;refine yl1 c3 ?_;refine a06 (fun v _ => v = .int .i64 (a0Z a1 b1)) rfl rfl (a05 rfl) rfl (by exact a0e) ?_ ?_
 · intro a w' hR h1 h2 K hK
   have e1 : _ = _ := h1;have e2 : _ = _ := h2;go_simp;refine (a0g a1 b1 w').mono ?_;rintro e w2 ⟨rfl, rfl⟩;exact hK _ _ (a02.refl _) rfl
 refine ya ?_;refine yl1 c2 ?_;refine ya ?_;refine yl1 c4 ?_;refine a06 (fun v _ => v = .int .i64 (a0Z a2 b2)) rfl rfl (a05 rfl) rfl (by exact a0e) ?_ ?_
 · intro a w' hR h1 h2 K hK
   have e1 : _ = _ := h1;have e2 : _ = _ := h2;go_simp;refine (a0g a2 b2 w').mono ?_;rintro e w2 ⟨rfl, rfl⟩;exact hK _ _ (a02.refl _) rfl
 refine a06 (fun v w2 => Rd w2 1 v 2 [.int .i64 (a0Z a1 b1), .int .i64 (a0Z a2 b2)]) rfl rfl (a05 rfl) rfl (by first | exact (fun _ _ _ h k => Rd.ext h k) | exact (fun _ _ _ h k => Rd.ext h (a02.ext k)) | exact (fun _ _ _ h k => Rd.extV h k)) ?_ ?_
 · intro a w' hR h1 h2 K hK
   have e1 : _ = _ := h1;have e2 : _ = _ := h2;have q1 : a.tmps[9]?.getD undef = .int .i64 (a0Z a1 b1) := by simpa using e1
   have q2 : a.tmps[14]?.getD undef = .int .i64 (a0Z a2 b2) := by simpa using e2
   go_simp;exact hK _ _ ((a02.refl _).alloc _) (Rd.lit _ #[.int .i64 (a0Z a1 b1), .int .i64 (a0Z a2 b2)] _ 2 rfl (by unfold maxLen; omega))
 refine a06 (fun v _ => v = .int .i64 (orI (a0Z a1 b1) (a0Z a2 b2))) rfl rfl (a05 rfl) rfl a0e ?_ ?_
 · intro a w' hR h1 K hK
   obtain ⟨x, ex, fx⟩ : ∃ x, a.tmps.getD 15 undef = x ∧ (fun v w2 => Rd w2 1 v 2 [.int .i64 (a0Z a1 b1), .int .i64 (a0Z a2 b2)]) x w' := ⟨_, rfl, h1⟩
   go_simp;refine (a9r _ _ _ w' fx).mono ?_;rintro e w2 ⟨rfl, rfl⟩;exact hK _ _ (a02.refl _) rfl
 refine ya ?_;refine a0f ?_;intro w5 hx5 hS
 iterate 10 (rintro _ rfl)
 iterate 1 (intro _ hz; clear hz)
 iterate 2 (rintro _ rfl)
 dsimp only [a1K];go_simp
 go_wp2
 go_ret
 rw [HC.o];exact ⟨rfl, hx.trans hx5⟩
theorem orAr (x y : Pl.Ar) : orI (Mom.cmp x.1.1 y.1.1) (Mom.cmp x.1.2 y.1.2) = Pl.a6M x y := by
 unfold orI Pl.a6M
 by_cases h : Mom.cmp x.1.1 y.1.1 = 0 <;> simp [h]
theorem a6h (x y : Pl.Ar) (w : World) : Calls Tryz.prog 171 #[arV x, arV y] w fun e w' => e = .returned (.int .i64 (Pl.a6M x y)) ∧ a02 w w' := by
 have HC := hid (orAr x y);obtain ⟨⟨⟨x1, x2⟩, x3, x4⟩, x5, x6⟩ := x;obtain ⟨⟨⟨y1, y2⟩, y3, y4⟩, y5, y6⟩ := y;dsimp only at *
 go_enter Tryz.func171, Tryz.ntmps171
 go_wp2
 obtain ⟨w2, hw2, hx, c0, c1, c2, c3, d0, d1, d2, d3⟩ := box6 w 144 (.int .i64 x1) (.int .i64 x2) (.int .i64 x3) (.int .i64 x4) (.bool x5) (.int .i64 x6) (.int .i64 y1) (.int .i64 y2) (.int .i64 y3) (.int .i64 y4) (.bool y5) (.int .i64 y6);rw [← hw2];clear hw2;generalize w.heap.size = n at *;refine a1m [] [] a02 a02 (fun _ => True) (by kernel_rfl) (by rfl) (by rfl) (by kernel_rfl) (by kernel_rfl) (by kernel_rfl) (fun _ _ _ x y => x.trans y) a02.refl (fun _ _ x => x) (a02.refl _).drew (fun _ _ x _ => x) trivial ?_
 refine ya ?_;refine yl2 c0 c1 ?_;refine ya ?_;refine yl2 d0 d1 ?_;refine a06 (fun v _ => v = .int .i64 (Mom.cmp (x1, x2) (y1, y2))) rfl rfl (a05 rfl) rfl a0e ?_ ?_
 · intro a w' hR h1 h2 K hK
   have e1 : _ = _ := h1;have e2 : _ = _ := h2;go_simp;refine (a47 (x1, x2) (y1, y2) w').mono ?_;rintro e w2 ⟨rfl, hg⟩;exact hK _ _ hg rfl
 refine ya ?_;refine yl2 c2 c3 ?_;refine ya ?_;refine yl2 d2 d3 ?_;refine a06 (fun v _ => v = .int .i64 (Mom.cmp (x3, x4) (y3, y4))) rfl rfl (a05 rfl) rfl a0e ?_ ?_
 · intro a w' hR h1 h2 K hK
   have e1 : _ = _ := h1;have e2 : _ = _ := h2;go_simp;refine (a47 (x3, x4) (y3, y4) w').mono ?_;rintro e w2 ⟨rfl, hg⟩;exact hK _ _ hg rfl
 refine a06 (fun v w2 => Rd w2 1 v 2 [.int .i64 (Mom.cmp (x1, x2) (y1, y2)), .int .i64 (Mom.cmp (x3, x4) (y3, y4))]) rfl rfl (a05 rfl) rfl (by first | exact (fun _ _ _ h k => Rd.ext h k) | exact (fun _ _ _ h k => Rd.ext h (a02.ext k)) | exact (fun _ _ _ h k => Rd.extV h k)) ?_ ?_
 · intro a w' hR h1 h2 K hK
   have e1 : _ = _ := h1;have e2 : _ = _ := h2;have q1 : a.tmps[9]?.getD undef = .int .i64 (Mom.cmp (x1, x2) (y1, y2)) := by simpa using e1
   have q2 : a.tmps[14]?.getD undef = .int .i64 (Mom.cmp (x3, x4) (y3, y4)) := by simpa using e2
   go_simp;exact hK _ _ ((a02.refl _).alloc _) (Rd.lit _ #[.int .i64 (Mom.cmp (x1, x2) (y1, y2)), .int .i64 (Mom.cmp (x3, x4) (y3, y4))] _ 2 rfl (by unfold maxLen; omega))
 refine a06 (fun v _ => v = .int .i64 (orI (Mom.cmp (x1, x2) (y1, y2)) (Mom.cmp (x3, x4) (y3, y4)))) rfl rfl (a05 rfl) rfl a0e ?_ ?_
 · intro a w' hR h1 K hK
   obtain ⟨x, ex, fx⟩ : ∃ x, a.tmps.getD 15 undef = x ∧ (fun v w2 => Rd w2 1 v 2 [.int .i64 (Mom.cmp (x1, x2) (y1, y2)), .int .i64 (Mom.cmp (x3, x4) (y3, y4))]) x w' := ⟨_, rfl, h1⟩
   go_simp;refine (a9r _ _ _ w' fx).mono ?_;rintro e w2 ⟨rfl, rfl⟩;exact hK _ _ (a02.refl _) rfl
 refine ya ?_;refine a0f ?_;intro w5 hx5 hS
 iterate 10 (rintro _ rfl)
 iterate 1 (intro _ hz; clear hz)
 iterate 2 (rintro _ rfl)
 dsimp only [a1K];go_simp
 go_wp2
 go_ret
 rw [HC.o];exact ⟨rfl, hx.trans hx5⟩
theorem a7G (blk off size : Nat) (w : World) : Go.Proofs.CmpLays Tryz.prog 171 #[] encA.enc 6 Pl.a6M blk off size w :=
 fun _ _ _ _ x y => a6h x y _
end Go.Proofs.YtdkejfjcchlnpaaGreat
namespace Go.Ox
open Go.ChangeShapes Go.WideShapes Go.ChangeAt Go.RowKit
section
variable {H : Type} {enc : TypeId × Value → H} {P : Program} {t e : TypeId} {W : World}
theorem a4U {v : Value} {d : DataW H} {p : List MemPlace} {base : Nat} {sp : Nat → Bool} {held : Bool} (h : DataW.Trod enc P W base sp held t v d p) : ∀ x ∈ p, x.block < W.heap.size := by
 obtain ⟨m, hm⟩ := h;exact DataW.trod_lt m _ _ _ hm
end
end Go.Ox
namespace Go.Ox
open Go.ChangeShapes Go.WideShapes Go.ChangeAt Go.RowKit Go.Deep
inductive Leaf
 | int (k : IntKind)
 | bool
def Leaf.ok : Leaf → Value → Prop
 | .int k, v => ∃ n, v = .int k n ∧ (Lit.int k n).wf = true
 | .bool, v => ∃ b, v = .bool b
def a3G : List Leaf → List Value → Prop
 | [], [] => True
 | k :: ks, c :: cs => k.ok c ∧ a3G ks cs
 | _, _ => False
theorem a3A : ∀ {ks ks' : List Leaf} {cs cs' : List Value}, a3G ks cs → a3G ks' cs' → a3G (ks ++ ks') (cs ++ cs')
 | [], _, [], _, _, h => h
 | [], _, _ :: _, _, h, _ => h.elim
 | _ :: _, _, [], _, h, _ => h.elim
 | _ :: _, _, _ :: _, _, h, k => ⟨h.1, a3A h.2 k⟩
theorem a6i {k : IntKind} {ks : List Leaf} : ∀ {cs : List Value}, a3G (.int k :: ks) cs → ∃ n cs', cs = .int k n :: cs' ∧ (Lit.int k n).wf = true ∧ a3G ks cs'
 | [], h => h.elim
 | c :: cs, h => by
  obtain ⟨⟨n, rfl, hw⟩, h2⟩ := h;exact ⟨n, cs, rfl, hw, h2⟩
theorem a9s : ∀ {cs : List Value}, a3G [] cs → cs = []
 | [], _ => rfl
 | _ :: _, h => h.elim
def a9t (P : Program) (fl : TypeId → Option (List Leaf)) : List Field → Nat → Option (List Leaf)
 | [], _ => some []
 | f :: fs, off =>
  if f.offset = off then
   match fl f.type with
   | some ks => if P.cellsOf f.type = ks.length then
    match a9t P fl fs (off + ks.length) with
    | some rs => some (ks ++ rs)
    | none => none
    else none
   | none => none
  else none
def flat (P : Program) : Nat → TypeId → Option (List Leaf)
 | 0, _ => none
 | n + 1, t =>
  match P.underlying t with
  | some (.int k) => some [.int k]
  | some .bool => some [.bool]
  | some (.struct fs) => match a9t P (flat P n) fs.toList 0 with
   | some ks => if P.cellsOf t = ks.length then some ks else none
   | none => none
  | _ => none
section
variable {H : Type} {enc : TypeId × Value → H} {P : Program} {W : World} {base : Nat} {sp : Nat → Bool} {held : Bool}
theorem a9u {n : Nat} (ih : ∀ t ks fuel cs x, flat P n t = some ks → DataW.trod enc P W base sp held fuel t cs = some x → a3G ks cs) {m : Nat} {cs : List Value} :
 ∀ (fs : List Field) (off : Nat) (ks : List Leaf), a9t P (flat P n) fs off = some ks → (∀ f ∈ fs, ∃ x, DataW.trod enc P W base sp held m f.type ((cs.drop f.offset).take (P.cellsOf f.type)) = some x) → off + ks.length ≤ cs.length →
  a3G ks ((cs.drop off).take ks.length)
 | [], off, ks, h, _, _ => by
  simp [a9t] at h; subst h;simp [a3G]
 | f :: fs, off, ks, h, hx, hl => by
  unfold a9t at h
  split at h
  · rename_i ho
    split at h
    · rename_i k1 h1
      split at h
      · rename_i hc
        split at h
        · rename_i rs h2
          injection h with h; subst h
          obtain ⟨x, hx1⟩ := hx f (List.mem_cons_self ..);have r1 := ih _ _ _ _ _ h1 hx1;rw [List.length_append] at hl;have r2 := a9u ih (m := m) (cs := cs) fs _ _ h2 (fun g hg => hx g (List.mem_cons_of_mem _ hg)) (by omega)
          rw [ho, hc] at r1;rw [List.length_append, List.take_add, List.drop_drop];exact a3A r1 r2
        · cases h
      · cases h
    · cases h
  · cases h
theorem a6j : ∀ (n : Nat) (t : TypeId) (ks : List Leaf) (fuel : Nat) (cs : List Value) (x : DataW H × List MemPlace), flat P n t = some ks → DataW.trod enc P W base sp held fuel t cs = some x → a3G ks cs
 | 0, _, _, _, _, _, h, _ => by unfold flat at h; cases h
 | n + 1, t, ks, fuel, cs, x, h, hx => by
  unfold flat at h
  split at h
  · rename_i k hu
    injection h with h; subst h
    obtain ⟨z, rfl, _, hw⟩ := DataW.trod_int hu hx;exact ⟨⟨z, rfl, hw⟩, trivial⟩
  · rename_i hu
    injection h with h; subst h
    obtain ⟨b, rfl, _⟩ := DataW.trod_bool hu hx;exact ⟨⟨b, rfl⟩, trivial⟩
  · rename_i fs hu
    split at h
    · rename_i k1 h1
      split at h
      · rename_i hc
        injection h with h; subst h
        obtain ⟨xs, m, _, _, hl, hlen, hf⟩ := DataW.trod_struct hu hx
        have := a9u (cs := cs) (m := m) (a6j n) fs.toList 0 k1 h1 (fun f hf' => by
         obtain ⟨i, hi, hif⟩ := List.getElem_of_mem hf';have h3 := hf i f (by simp at hi; rw [Array.getElem?_eq_getElem (by simpa using hi)]; simpa using hif)
         have h4 : i < xs.length := by simp at hi; omega
         rw [List.getElem?_eq_getElem h4] at h3
         exact ⟨_, h3⟩) (by omega)
        rw [List.drop_zero, ← hc, ← hl, List.take_length] at this;exact this
      · cases h
    · cases h
  · cases h
theorem a4G {n : Nat} {t : TypeId} {ks : List Leaf} {fs : Array Field} (hf : flat P n t = some ks) (hu : P.underlying t = some (.struct fs)) {v : Value} {d : DataW H} {p : List MemPlace} {r : Reach} {b0 : Nat}
 (hv : Value.okWide P W r b0 t v) (h : DataW.Trod enc P W base sp held t v d p) : ∃ cs : List Value, v = .agg cs.toArray ∧ a3G ks cs := by
 obtain ⟨cs, rfl, hsz⟩ := okWide_struct hu hv;obtain ⟨fuel, hf'⟩ := h;refine ⟨cs.toList, by simp, ?_⟩
 have := a6j _ _ _ _ _ _ hf hf';simpa [Value.cells] using this
theorem a4V {α : Type} {L : Nat} (hL : 0 < L) : ∀ (rows : List (List α)), (∀ r ∈ rows, r.length = L) → ∀ j, rows.flatten[j]? = (rows[j / L]?).bind fun r => r[j % L]?
 | [], _, j => by simp
 | r :: rows, h, j => by
  have hr := h r (List.mem_cons_self ..);rw [List.flatten_cons]
  by_cases hj : j < L
  · rw [List.getElem?_append_left (by omega), Nat.div_eq_of_lt hj, Nat.mod_eq_of_lt hj]
    simp
  · rw [List.getElem?_append_right (by omega), hr, a4V hL rows (fun x hx => h x (List.mem_cons_of_mem _ hx))]
    have e1 : j / L = (j - L) / L + 1 := by
     rw [← Nat.add_div_right _ hL]; congr 1; omega
    have e2 : j % L = (j - L) % L := by
     rw [← Nat.add_mod_right (j - L) L]; congr 1; omega
    rw [e1, e2, List.getElem?_cons_succ]
end
end Go.Ox
