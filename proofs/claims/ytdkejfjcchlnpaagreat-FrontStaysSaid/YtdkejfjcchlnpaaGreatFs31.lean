/-
  CntMath, Cnt, Cnt2, packed: what the claim needs of them.
-/
import Derived.Test.YtdkejfjcchlnpaaGreatFs07
import Derived.Test.YtdkejfjcchlnpaaGreatFs06
import Derived.Shelf.SlMaps.Clone
import Derived.Test.YtdkejfjcchlnpaaGreatFs01
import Derived.Test.YtdkejfjcchlnpaaGreatFs12
set_option maxHeartbeats 40000000
open Go.Lib (hid)
set_option linter.unusedSimpArgs false
set_option linter.unusedVariables false
set_option maxRecDepth 100000
namespace Go.Ox.Cnt
open Go.Ox
abbrev K := (Int × Int) × (Int × Int)
abbrev S := K × Int
def klt (a b : K) : Prop := Mom.lt a.1 b.1 ∨ (a.1 = b.1 ∧ Mom.lt a.2 b.2)
instance (a b : K) : Decidable (klt a b) := by unfold klt Mom.lt; infer_instance
def a8j (a b : K) : Int := if Mom.cmp a.1 b.1 = 0 then Mom.cmp a.2 b.2 else Mom.cmp a.1 b.1
theorem b09 {a b : Int × Int} : Mom.cmp a b = 0 ↔ a = b := by
 obtain ⟨a1, a2⟩ := a;obtain ⟨b1, b2⟩ := b;unfold Mom.cmp;simp only [Prod.mk.injEq]
 repeat' split
 all_goals omega
theorem a0z (a : K) : ¬ klt a a := by
 unfold klt;rintro (h | ⟨_, h⟩)
 · exact Mom.lt_irrefl _ h
 exact Mom.lt_irrefl _ h
theorem a0J {a b c : K} (h : klt a b) (k : klt b c) : klt a c := by
 unfold klt at *
 rcases h with h | ⟨h1, h2⟩
 · rcases k with k | ⟨k1, k2⟩
   · exact .inl (Mom.lt_trans h k)
   exact .inl (k1 ▸ h)
 rcases k with k | ⟨k1, k2⟩
 · exact .inl (h1 ▸ k)
 exact .inr ⟨h1.trans k1, Mom.lt_trans h2 k2⟩
theorem a27 (a b : K) : klt a b ∨ a = b ∨ klt b a := by
 unfold klt
 rcases Mom.a3s a.1 b.1 with h | h | h
 · exact .inl (.inl h)
 · rcases Mom.a3s a.2 b.2 with k | k | k
   · exact .inl (.inr ⟨h, k⟩)
   · exact .inr (.inl (Prod.ext h k))
   exact .inr (.inr (.inr ⟨h.symm, k⟩))
 exact .inr (.inr (.inl h))
theorem a9h {a b : K} : a8j a b < 0 ↔ klt a b := by
 unfold a8j klt
 by_cases h : a.1 = b.1
 · rw [if_pos (b09.2 h), Mom.a6b]
   constructor
   · intro k; exact .inr ⟨h, k⟩
   rintro (k | ⟨_, k⟩)
   · rw [h] at k; exact absurd k (Mom.lt_irrefl _)
   exact k
 rw [if_neg (fun q => h (b09.1 q)), Mom.a6b]
 constructor
 · intro k; exact .inl k
 rintro (k | ⟨q, _⟩)
 · exact k
 exact absurd q h
structure Good (L : List S) : Prop where
 asc : L.Pairwise fun a b => klt a.1 b.1
 num : ∀ x ∈ L, 1 ≤ x.2 ∧ x.2 ≤ 1073741824
theorem a6e : ∀ {a b : List S}, a.Pairwise (fun a b => klt a.1 b.1) → b.Pairwise (fun a b => klt a.1 b.1) → (∀ m, m ∈ a ↔ m ∈ b) → a = b
 | [], [], _, _, _ => rfl
 | [], y :: b, _, _, h => by have := (h y).2 (List.mem_cons_self ..); simp at this
 | x :: a, [], _, _, h => by have := (h x).1 (List.mem_cons_self ..); simp at this
 | x :: a, y :: b, ha, hb, h => by
  have ha := List.pairwise_cons.1 ha;have hb := List.pairwise_cons.1 hb
  have e : x = y := by
   rcases List.mem_cons.1 ((h x).1 (List.mem_cons_self ..)) with r | r
   · exact r
   · rcases List.mem_cons.1 ((h y).2 (List.mem_cons_self ..)) with q | q
     · exact q.symm
     · exact absurd (a0J (ha.1 y q) (hb.1 x r)) (a0z _)
  subst e;rw [a6e ha.2 hb.2 fun m => ?_]
  constructor
  · intro hm
    rcases List.mem_cons.1 ((h m).1 (List.mem_cons_of_mem _ hm)) with r | r
    · subst r; exact absurd (ha.1 _ hm) (a0z _)
    · exact r
  · intro hm
    rcases List.mem_cons.1 ((h m).2 (List.mem_cons_of_mem _ hm)) with r | r
    · subst r; exact absurd (hb.1 _ hm) (a0z _)
    · exact r
theorem a5F {L : List S} (h : L.Pairwise fun a b => klt a.1 b.1) : (L.map (·.1)).Nodup := by
 rw [List.nodup_iff_pairwise_ne, List.pairwise_map];exact h.imp fun {a b} hh (q : a.1 = b.1) => a0z b.1 (q ▸ hh)
def was (L : List S) (k : K) : Int := (ofE k L).getD 0
theorem b32 {L : List S} (h : Good L) {k : K} {n : Int} (hm : (k, n) ∈ L) : was L k = n := by
 obtain ⟨j, hj⟩ := a6K (i := 0) (a5F h.asc) hm;unfold was ofE;rw [hj]; rfl
theorem b33 {L : List S} {k : K} (hm : ∀ x ∈ L, x.1 ≠ k) : was L k = 0 := by
 unfold was ofE;rw [a1W.2 hm]; rfl
theorem a8k {L : List S} (h : Good L) (k : K) : (∃ n, (k, n) ∈ L ∧ was L k = n) ∨ ((∀ x ∈ L, x.1 ≠ k) ∧ was L k = 0) := by
 by_cases hm : ∃ x ∈ L, x.1 = k
 · obtain ⟨x, hx, rfl⟩ := hm
   exact .inl ⟨x.2, hx, b32 h hx⟩
 have : ∀ x ∈ L, x.1 ≠ k := fun x hx q => hm ⟨x, hx, q⟩
 exact .inr ⟨this, b33 this⟩
theorem a2q {L : List S} (h : Good L) (k : K) : 0 ≤ was L k ∧ was L k ≤ 1073741824 := by
 rcases a8k h k with ⟨n, hm, e⟩ | ⟨_, e⟩
 · rw [e]; have := h.num _ hm; simp only at this; omega
 rw [e]; omega
def a0N (s : S) (st : List S × Bool) (x : S) : List S × Bool :=
 if x.1 = s.1 then st else if st.2 = false ∧ klt s.1 x.1 then (st.1 ++ [s] ++ [x], true) else (st.1 ++ [x], st.2)
def b19 (L : List S) (s : S) : List S := if (L.foldl (a0N s) ([], s.2 == 0)).2 = true then (L.foldl (a0N s) ([], s.2 == 0)).1 else (L.foldl (a0N s) ([], s.2 == 0)).1 ++ [s]
structure RInv (s : S) (pre : List S) (st : List S × Bool) : Prop where
 asc : st.1.Pairwise fun a b => klt a.1 b.1
 mem : ∀ x, x ∈ st.1 ↔ (x ∈ pre ∧ x.1 ≠ s.1) ∨ (st.2 = true ∧ s.2 ≠ 0 ∧ x = s)
 off : st.2 = false → ∀ x ∈ pre, x.1 ≠ s.1 → klt x.1 s.1
 zero : s.2 = 0 → st.2 = true
 on : st.2 = true → s.2 ≠ 0 → ∃ y ∈ pre, klt s.1 y.1
theorem RInv.step {s : S} {pre : List S} {st : List S × Bool} {x : S} (h : RInv s pre st) (hx : ∀ y ∈ pre, klt y.1 x.1) : RInv s (pre ++ [x]) (a0N s st x) := by
 obtain ⟨out, put⟩ := st;unfold a0N
 by_cases h1 : x.1 = s.1
 · rw [if_pos h1]
   refine ⟨h.asc, fun y => ?_, fun hp y hy hne => ?_, h.zero, fun hp hs => ?_⟩
   · rw [h.mem y]
     simp only [List.mem_append, List.mem_singleton];constructor
     · rintro (⟨a, b⟩ | c)
       · exact .inl ⟨.inl a, b⟩
       exact .inr c
     rintro (⟨a | rfl, b⟩ | c)
     · exact .inl ⟨a, b⟩
     · exact absurd h1 b
     exact .inr c
   · rcases List.mem_append.1 hy with hy | hy
     · exact h.off hp y hy hne
     rw [List.mem_singleton.1 hy] at hne; exact absurd h1 hne
   obtain ⟨y, hy, hq⟩ := h.on hp hs;exact ⟨y, List.mem_append_left _ hy, hq⟩
 rw [if_neg h1]
 by_cases h2 : put = false ∧ klt s.1 x.1
 · rw [if_pos h2]
   obtain ⟨rfl, h3⟩ := h2;have hs : s.2 ≠ 0 := fun q => by have := h.zero q; cases this
   have hout : ∀ y ∈ out, klt y.1 s.1 := fun y hy => by
    rcases (h.mem y).1 hy with ⟨a, b⟩ | ⟨a, _⟩
    · exact h.off rfl y a b
    cases a
   refine ⟨?_, fun y => ?_, fun hp => (by cases hp), fun _ => rfl, fun _ _ => ⟨x, by simp, h3⟩⟩
   · refine List.pairwise_append.2 ⟨List.pairwise_append.2 ⟨h.asc, by simp, fun a ha b hb => ?_⟩, by simp, fun a ha b hb => ?_⟩
     · rw [List.mem_singleton.1 hb]; exact hout a ha
     rw [List.mem_singleton.1 hb]
     rcases List.mem_append.1 ha with ha | ha
     · exact a0J (hout a ha) h3
     rw [List.mem_singleton.1 ha]; exact h3
   simp only [List.mem_append, List.mem_singleton];rw [h.mem y];constructor
   · rintro (((⟨a, b⟩ | ⟨a, _⟩) | rfl) | rfl)
     · exact .inl ⟨.inl a, b⟩
     · cases a
     · exact .inr ⟨trivial, hs, rfl⟩
     exact .inl ⟨.inr rfl, h1⟩
   rintro (⟨a | rfl, b⟩ | ⟨_, _, rfl⟩)
   · exact .inl (.inl (.inl ⟨a, b⟩))
   · exact .inr rfl
   exact .inl (.inr rfl)
 rw [if_neg h2]
 have hlt : put = false → klt x.1 s.1 := fun hp => by
  rcases a27 x.1 s.1 with q | q | q
  · exact q
  · exact absurd q h1
  exact absurd ⟨hp, q⟩ h2
 refine ⟨List.pairwise_append.2 ⟨h.asc, by simp, fun a ha b hb => ?_⟩, fun y => ?_, fun hp y hy hne => ?_, h.zero, fun hp hs => ?_⟩
 · rw [List.mem_singleton.1 hb]
   rcases (h.mem a).1 ha with ⟨q, _⟩ | ⟨q, hs, rfl⟩
   · exact hx a q
   obtain ⟨y, hy, hq⟩ := h.on q hs;exact a0J hq (hx y hy)
 · simp only [List.mem_append, List.mem_singleton]
   rw [h.mem y];constructor
   · rintro ((⟨a, b⟩ | c) | rfl)
     · exact .inl ⟨.inl a, b⟩
     · exact .inr c
     exact .inl ⟨.inr rfl, h1⟩
   rintro (⟨a | rfl, b⟩ | c)
   · exact .inl (.inl ⟨a, b⟩)
   · exact .inr rfl
   exact .inl (.inr c)
 · rcases List.mem_append.1 hy with hy | hy
   · exact h.off hp y hy hne
   rw [List.mem_singleton.1 hy]; exact hlt hp
 obtain ⟨y, hy, hq⟩ := h.on hp hs;exact ⟨y, List.mem_append_left _ hy, hq⟩
theorem RInv.all {s : S} : ∀ (suf pre : List S) (st : List S × Bool), RInv s pre st → (pre ++ suf).Pairwise (fun a b => klt a.1 b.1) → RInv s (pre ++ suf) (suf.foldl (a0N s) st)
 | [], pre, st, h, _ => by simpa using h
 | x :: suf, pre, st, h, hp => by
  have h1 : ∀ y ∈ pre, klt y.1 x.1 := fun y hy => (List.pairwise_append.1 hp).2.2 y hy x (List.mem_cons_self ..)
  have := RInv.all suf (pre ++ [x]) _ (h.step h1) (by simpa using hp)
  simpa using this
theorem RInv.start (s : S) : RInv s [] ([], s.2 == 0) :=
 ⟨List.Pairwise.nil, fun x => (by simp; intro a b; exact absurd a b), fun _ x hx => by simp at hx, fun h => by simp [h], fun h1 h2 => absurd (by simpa using h1) h2⟩
theorem a5G {L : List S} (h : L.Pairwise fun a b => klt a.1 b.1) (s : S) : (b19 L s).Pairwise (fun a b => klt a.1 b.1) ∧ ∀ x, x ∈ b19 L s ↔ (x ∈ L ∧ x.1 ≠ s.1) ∨ (s.2 ≠ 0 ∧ x = s) := by
 have hi : RInv s ([] ++ L) (L.foldl (a0N s) ([], s.2 == 0)) := RInv.all L [] _ (RInv.start s) (by simpa using h)
 rw [List.nil_append] at hi;unfold b19
 split
 · rename_i hp
   refine ⟨hi.asc, fun x => ?_⟩
   rw [hi.mem x, hp];simp
 rename_i hp
 have hp : (L.foldl (a0N s) ([], s.2 == 0)).2 = false := by simpa using hp
 have hs : s.2 ≠ 0 := fun q => by have := hi.zero q; rw [hp] at this; cases this
 refine ⟨List.pairwise_append.2 ⟨hi.asc, by simp, fun a ha b hb => ?_⟩, fun x => ?_⟩
 · rw [List.mem_singleton.1 hb]
   rcases (hi.mem a).1 ha with ⟨q1, q2⟩ | ⟨q, _⟩
   · exact hi.off hp a q1 q2
   rw [hp] at q; cases q
 simp only [List.mem_append, List.mem_singleton];rw [hi.mem x, hp];simp [hs]
theorem a8l {L : List S} (h : Good L) (s : S) (h0 : 0 ≤ s.2) (h1 : s.2 ≤ 1073741824) : Good (b19 L s) := by
 obtain ⟨a, b⟩ := a5G h.asc s;refine ⟨a, fun x hx => ?_⟩
 rcases (b x).1 hx with ⟨q, _⟩ | ⟨q, rfl⟩
 · exact h.num x q
 omega
theorem b4T (L : List S) (s : S) : (b19 L s).length ≤ L.length + 1 := by
 have key : ∀ (l : List S) (st : List S × Bool), (l.foldl (a0N s) st).1.length + (if (l.foldl (a0N s) st).2 = true then 0 else 1) ≤ st.1.length + l.length + (if st.2 = true then 0 else 1) := by
  intro l
  induction l with
  | nil => intro st; simp only [List.foldl_nil, List.length_nil, Nat.add_zero]; exact Nat.le_refl _
  | cons x l ih =>
  intro st;have := ih (a0N s st x);rw [List.foldl_cons, List.length_cons];refine Nat.le_trans this ?_;unfold a0N
  split
  · omega
  split
  · rename_i hq
    rw [hq.1];simp; omega
  simp; omega
 have := key L ([], s.2 == 0);unfold b19
 split
 · rename_i h
   rw [if_pos h] at this;simp only [List.length_nil] at this
   split at this <;> omega
 rename_i h
 rw [if_neg h] at this;rw [List.length_append, List.length_singleton];simp only [List.length_nil] at this
 split at this <;> omega
def add (L : List S) (k : K) (n : Int) : List S × Int :=
 if Mom.ok k.2 = false then (L, 40) else if n < - was L k ∨ 1073741824 - was L k < n then (L, 210) else (b19 L (k, was L k + n), 0)
theorem b34 (L : List S) (k : K) (n : Int) : (add L k n).1.length ≤ L.length + 1 := by
 unfold add
 split
 · show L.length ≤ L.length + 1; omega
 split
 · show L.length ≤ L.length + 1; omega
 exact b4T _ _
theorem b0a : Good [] := ⟨List.Pairwise.nil, by simp⟩
def tot (L : List S) : Int := (L.map (·.2)).sum
end Go.Ox.Cnt
namespace Go.Proofs.YtdkejfjcchlnpaaGreat.Ct
open Go.RowKit Go.Ox
abbrev pV2 (m : Int × Int) : Value := .agg #[.int .i64 m.1, .int .i64 m.2]
abbrev kV (k : Cnt.K) : Value := .agg #[.int .i64 k.1.1, .int .i64 k.1.2, .int .i64 k.2.1, .int .i64 k.2.2]
abbrev vI (n : Int) : Value := .int .i64 n
abbrev sV (x : Cnt.S) : Value := .agg #[.int .i64 x.1.1.1, .int .i64 x.1.1.2, .int .i64 x.1.2.1, .int .i64 x.1.2.2, .int .i64 x.2]
instance encS : Enc Cnt.S where
 k := 5
 enc x := [.int .i64 x.1.1.1, .int .i64 x.1.1.2, .int .i64 x.1.2.1, .int .i64 x.1.2.2, .int .i64 x.2]
 len _ := rfl
 pos := by omega
 one x u hu := by simp at hu; rcases hu with rfl | rfl | rfl | rfl | rfl <;> rfl
theorem a5Z : Elem Tryz.prog 25 38 (.agg #[.int .i64 0, .int .i64 0, .int .i64 0, .int .i64 0, .int .i64 0]) 5 40 := Elem.mk' Tryz.underlying25 (by kernel_rfl) rfl (by omega)
def b1a (a b c d : Int) : Bool := (a == c) && (b == d)
theorem eqInP (a b c d : Int) (w : World) : (Op.equalIn 9999 27 (.agg #[.int .i64 a, .int .i64 b]) (.agg #[.int .i64 c, .int .i64 d])).run Tryz.prog w = .ok (b1a a b c d) w := by
 have u3 := Tryz.underlying3;have a3 := Tryz.isAgg3;have z3 := Tryz.sizeOf3;have hS : Tryz.prog.underlying 27 = some (.struct (Tryz.prog.fieldsOf 27)) := by kernel_rfl
 have hp : Tryz.prog.stoodInHeld 27 = false := by kernel_rfl
 rw [show (9999 : Nat) = 9998 + 1 from rfl, run_equalIn_agg w 9998 27 _ _ hS hp];simp only [Program.fieldsOf, Tryz.underlying27];unfold b1a;go_simp
 by_cases h1 : a = c <;> by_cases h2 : b = d <;> simp [h1, h2]
theorem b5J (a b c d : Int) (w : World) : (Op.equalIn 9999 29 (.agg #[.int .i64 a, .int .i64 b]) (.agg #[.int .i64 c, .int .i64 d])).run Tryz.prog w = .ok (b1a a b c d) w := by
 have u3 := Tryz.underlying3;have a3 := Tryz.isAgg3;have z3 := Tryz.sizeOf3;have hS : Tryz.prog.underlying 29 = some (.struct (Tryz.prog.fieldsOf 29)) := by kernel_rfl
 have hp : Tryz.prog.stoodInHeld 29 = false := by kernel_rfl
 rw [show (9999 : Nat) = 9998 + 1 from rfl, run_equalIn_agg w 9998 29 _ _ hS hp];simp only [Program.fieldsOf, Tryz.underlying29];unfold b1a;go_simp
 by_cases h1 : a = c <;> by_cases h2 : b = d <;> simp [h1, h2]
theorem eqInK (x y : Cnt.K) (w : World) : (Op.equalIn 10000 92 (kV x) (kV y)).run Tryz.prog w = .ok (decide (x = y)) w := by
 have hS : Tryz.prog.underlying 92 = some (.struct (Tryz.prog.fieldsOf 92)) := by kernel_rfl
 have hp : Tryz.prog.stoodInHeld 92 = false := by kernel_rfl
 have h1 := eqInP;have h2 := b5J;have a1 := Tryz.isAgg27;have a2 := Tryz.isAgg29;have z1 := Tryz.sizeOf27;have z2 := Tryz.sizeOf29;rw [show (10000 : Nat) = 9999 + 1 from rfl, run_equalIn_agg w 9999 92 _ _ hS hp];simp only [Program.fieldsOf, Tryz.underlying92];obtain ⟨⟨x1, x2⟩, x3, x4⟩ := x;obtain ⟨⟨y1, y2⟩, y3, y4⟩ := y;go_simp;unfold b1a
 by_cases q1 : x1 = y1 <;> by_cases q2 : x2 = y2 <;> by_cases q3 : x3 = y3 <;> by_cases q4 : x4 = y4 <;> simp [q1, q2, q3, q4]
theorem chkK (e : Bool) (x : Cnt.K) (w : World) : (Instr.checkKey e 10000 92 (kV x)).run Tryz.prog w = .ok () w := by
 kernel_rfl
theorem bitsK (x : Cnt.K) : Instr.sameBits 10000 (kV x) (kV x) = true := by
 show Instr.sameBits (9999 + 1) (kV x) (kV x) = true;simp [Instr.sameBits]
theorem keyK : KeyE Tryz.prog 92 kV where
 eq := eqInK
 chk := chkK
 now x y es i b n := ⟨_, Tryz.underlying92, rfl, rfl⟩
 bits := bitsK
theorem zeroI (w : World) : (zeroValue 3).run Tryz.prog w = .ok (vI 0) w := by kernel_rfl
structure CM (w : World) (g b : Nat) (L : List Cnt.S) : Prop where
 box : Blk w g 90 #[.map (some b)]
 ne : g ≠ b
 map : ∃ l, a2N kV vI w b l ∧ ∀ x, x ∈ l ↔ x ∈ L
 good : Cnt.Good L
theorem CM.ext {w w' : World} {g b : Nat} {L : List Cnt.S} (h : CM w g b L) (he : Ext w w') : CM w' g b L := by
 obtain ⟨l, h1, h2⟩ := h.map;exact ⟨h.box.ext he, h.ne, ⟨l, h1.ext he, h2⟩, h.good⟩
theorem CM.a2a {w w' : World} {g b c : Nat} {L : List Cnt.S} (h : CM w g b L) (he : ExtM c w w') (h1 : g ≠ c) (h2 : b ≠ c) : CM w' g b L := by
 obtain ⟨l, h3, h4⟩ := h.map;exact ⟨h.box.a2a he h1, h.ne, ⟨l, h3.a2a he h2, h4⟩, h.good⟩
theorem CM.lt {w : World} {g b : Nat} {L : List Cnt.S} (h : CM w g b L) : g < w.heap.size ∧ b < w.heap.size := by
 obtain ⟨l, h1, _⟩ := h.map;exact ⟨h.box.lt, h1.lt⟩
theorem was_of {l L : List Cnt.S} (hn : (l.map (·.1)).Nodup) (hg : Cnt.Good L) (h : ∀ x, x ∈ l ↔ x ∈ L) (k : Cnt.K) : (ofE k l).getD 0 = Cnt.was L k := by
 unfold Cnt.was ofE
 cases h1 : fdE k l 0 with
 | none =>
  have := a1W.1 h1;rw [a1W.2 fun x hx => this x ((h x).2 hx)]
 | some p =>
 have hm := (h _).1 (a4M (show fdE k l 0 = some (p.1, p.2) from h1));obtain ⟨j, hj⟩ := a6K (i := 0) (Cnt.a5F hg.asc) hm;rw [hj];rfl
theorem CM.look {w : World} {g b : Nat} {L : List Cnt.S} (h : CM w g b L) (k : Cnt.K) : (Instr.lookup 88 (.map (some b)) (kV k) false).run Tryz.prog w = .ok (vI (Cnt.was L k)) w := by
 obtain ⟨l, h1, h2⟩ := h.map;rw [h1.a9w keyK Tryz.underlying88 (z := 0) zeroI k, was_of h1.nodup h.good h2]
theorem b35 (w : World) : Calls Tryz.prog 26 #[] w fun e w' => ∃ g b, e = .returned (.pointer (some ⟨g, 0, none⟩)) ∧ w.heap.size ≤ g ∧ w.heap.size ≤ b ∧ CM w' g b [] ∧ Ext w w' := by
 have hmm := @run_makeMap Tryz.prog
 go_enter Tryz.func26, Tryz.ntmps26
 go_wp2
 go_ret
 have hm := a2N.new (kV := kV) (vV := vI) w;have hb := Blk.new (w.alloc (.map #[] 0)) 90 #[.map (some w.heap.size)];have hs : (w.alloc (.map #[] 0)).heap.size = w.heap.size + 1 := by simp
 rw [hs] at hb;refine ⟨_, _, rfl, ?_, Nat.le_refl _, ⟨hb, ?_, ⟨[], hm.ext ((Ext.refl _).alloc _), by simp⟩, Cnt.b0a⟩, ((Ext.refl _).alloc _).alloc _⟩
 · simp
 simp
theorem run_neq_map_nil (w : World) (b : Nat) : (binOp .neq 88 (.map (some b)) (.map none)).run Tryz.prog w = .ok (.bool true) w := by
 have h := Go.Proofs.run_equalIn_map_nil_sl (P := Tryz.prog) w 9999 88 _ _ (some b) Tryz.underlying88;simp only [binOp];simp [show ∀ t x y, Op.equal t x y = Op.equalIn (9999 + 1) t x y from fun _ _ _ => rfl, h]
theorem a3i (w : World) (g b : Nat) (L : List Cnt.S) (h : CM w g b L) : Calls Tryz.prog 45 #[.pointer (some ⟨g, 0, none⟩)] w fun e w' => e = .returned (.bool true) ∧ w = w' := by
 have hc := h.box.cell 0;have hc : w.cell? ⟨g, 0, none⟩ = some (.map (some b)) := hc;have hq := fun w => run_neq_map_nil w b
 clear h
 go_enter Tryz.func45, Tryz.ntmps45
 go_wp2
 go_ret
 exact ⟨rfl, rfl⟩
open Go.RowKit Go.Ox Mo
theorem b4U (w : World) (a b c d : Value) : ((w.alloc (.cells #[a, b] 27)).alloc (.cells #[c, d] 29)).cell? ⟨w.heap.size, 0, none⟩ = some a ∧ ((w.alloc (.cells #[a, b] 27)).alloc (.cells #[c, d] 29)).cell? ⟨w.heap.size, 1, none⟩ = some b ∧
 ((w.alloc (.cells #[a, b] 27)).alloc (.cells #[c, d] 29)).cell? ⟨w.heap.size + 1, 0, none⟩ = some c ∧ ((w.alloc (.cells #[a, b] 27)).alloc (.cells #[c, d] 29)).cell? ⟨w.heap.size + 1, 1, none⟩ = some d :=
 a9z w _ _ a b c d
theorem of_any (w : World) (g b : Nat) (L : List Cnt.S) (h : CM w g b L) (k : Cnt.K) :
 Calls Tryz.prog 15 #[.pointer (some ⟨g, 0, none⟩), pV2 k.1, pV2 k.2] w fun e w' => e = .returned (vI (Cnt.was L k)) ∧ Ext w w' := by
 obtain ⟨⟨k1, k2⟩, k3, k4⟩ := k;dsimp only;obtain ⟨c1, c2, c3, c4⟩ := b4U w (.int .i64 k1) (.int .i64 k2) (.int .i64 k3) (.int .i64 k4);have hx : Ext w ((w.alloc (.cells #[.int .i64 k1, .int .i64 k2] 27)).alloc (.cells #[.int .i64 k3, .int .i64 k4] 29)) := ((Ext.refl _).alloc _).alloc _;have HX := hid hx;have HC := hid (h.ext hx);have HM := hid (fun w h => a3i w g b L h)
 have c0 : ((w.alloc (.cells #[.int .i64 k1, .int .i64 k2] 27)).alloc (.cells #[.int .i64 k3, .int .i64 k4] 29)).cell? ⟨g, 0, none⟩ = some (.map (some b)) := (h.ext hx).box.cell 0;clear h hx
 go_enter Tryz.func15, Tryz.ntmps15
 go_wp2_with fail
 refine (HM.o _ HC.o).mono ?_;rintro e w1 ⟨rfl, rfl⟩
 go_wp2
 refine a0D (by kernel_rfl) (by rfl) (by rfl) (by kernel_rfl) ?_
 refine ma ?_;refine ml5 c0 c1 c2 c3 c4 ?_;refine ml5 c0 c1 c2 c3 c4 ?_;refine ml5 c0 c1 c2 c3 c4 ?_
 (first | (refine a1F Ext.refl rfl ?_) | (refine a1G Ext.refl rfl rfl ?_)); apply Exists.intro; refine ⟨?_, ?_⟩
 · intro a w' hR h1 h2
   have e1 : _ = _ := h1;have e2 : _ = _ := h2;have q1 := e1; rw [Array.getD_eq_getD_getElem?] at q1;have q2 := e2; rw [Array.getD_eq_getD_getElem?] at q2;go_simp;rfl
 (first | (refine a1F Ext.refl rfl ?_) | (refine a1G Ext.refl rfl rfl ?_)); apply Exists.intro; refine ⟨?_, ?_⟩
 · intro a w' hR h1 h2
   have e1 : _ = _ := h1;have e2 : _ = _ := h2;have hl := (HC.o.ext hR).look ((k1, k2), k3, k4);go_simp;rfl
 refine ma ?_;refine a2t ?_;intro w5 hx5
 iterate 9 (rintro _ rfl)
 dsimp only [a0B];go_simp
 go_wp2
 go_ret
 exact ⟨rfl, HX.o.trans hx5⟩
theorem CM.put {w : World} {g b : Nat} {L : List Cnt.S} (h : CM w g b L) (k : Cnt.K) (n : Int) :
 ∃ w' l', (Instr.mapUpdate 88 (.map (some b)) (kV k) (vI n)).run Tryz.prog w = .ok () w' ∧ ExtM b w w' ∧ a2N kV vI w' b l' ∧ ∀ x, x ∈ l' ↔ (x ∈ L ∧ x.1 ≠ k) ∨ x = (k, n) := by
 obtain ⟨l, h1, h2⟩ := h.map;obtain ⟨w', l', h3, h4, h5, h6⟩ := h1.a8C keyK Tryz.underlying88 k n;exact ⟨w', l', h3, h5, h4, fun x => by rw [h6, h2]⟩
theorem CM.done {w w' : World} {g b : Nat} {L : List Cnt.S} (h : CM w g b L) (hx : ExtM b w w') {l' : List Cnt.S} (hm : a2N kV vI w' b l') {k : Cnt.K} {n : Int} (h0 : 0 ≤ n) (h1 : n ≤ 1073741824)
 (hmem : ∀ x, x ∈ l' ↔ (x ∈ L ∧ x.1 ≠ k) ∨ (n ≠ 0 ∧ x = (k, n))) : CM w' g b (Cnt.b19 L (k, n)) :=
 ⟨h.box.a2a hx h.ne, h.ne, ⟨l', hm, fun x => by rw [hmem, (Cnt.a5G h.good.asc (k, n)).2 x]⟩, Cnt.a8l h.good _ h0 h1⟩
theorem b6U (w : World) (g b : Nat) (L : List Cnt.S) (h : CM w g b L) (k : Cnt.K) (n : Int) (hk : Mom.ok k.2 = false) :
 Calls Tryz.prog 14 #[.pointer (some ⟨g, 0, none⟩), pV2 k.1, pV2 k.2, .int .i64 n] w fun e w' => e = .returned (.int .i64 40) ∧ Ext w w' := by
 obtain ⟨⟨k1, k2⟩, k3, k4⟩ := k;dsimp only at *;obtain ⟨c1, c2, c3, c4⟩ := b4U w (.int .i64 k1) (.int .i64 k2) (.int .i64 k3) (.int .i64 k4);have hx : Ext w ((w.alloc (.cells #[.int .i64 k1, .int .i64 k2] 27)).alloc (.cells #[.int .i64 k3, .int .i64 k4] 29)) := ((Ext.refl _).alloc _).alloc _;have HX := hid hx;have HC := hid (h.ext hx);have HM := hid (fun w h => a3i w g b L h)
 have HK := hid (fun w => a0w (k3, k4) w)
 rw [hk] at HK;clear h hx hk
 go_enter Tryz.func14, Tryz.ntmps14
 go_wp2_with fail
 refine (HM.o _ HC.o).mono ?_;rintro e w1 ⟨rfl, rfl⟩
 go_wp2_with fail
 refine (HK.o _).mono ?_;rintro e w2 ⟨rfl, he2⟩
 go_wp2
 go_ret
 exact ⟨rfl, HX.o.trans he2⟩
theorem b6V (w : World) (g b : Nat) (L : List Cnt.S) (h : CM w g b L) (k : Cnt.K) (n : Int) (hk : Mom.ok k.2 = true) (hr : n < - Cnt.was L k ∨ 1073741824 - Cnt.was L k < n) :
 Calls Tryz.prog 14 #[.pointer (some ⟨g, 0, none⟩), pV2 k.1, pV2 k.2, .int .i64 n] w fun e w' => e = .returned (.int .i64 210) ∧ Ext w w' := by
 obtain ⟨⟨k1, k2⟩, k3, k4⟩ := k;dsimp only at *;obtain ⟨c1, c2, c3, c4⟩ := b4U w (.int .i64 k1) (.int .i64 k2) (.int .i64 k3) (.int .i64 k4);have hx : Ext w ((w.alloc (.cells #[.int .i64 k1, .int .i64 k2] 27)).alloc (.cells #[.int .i64 k3, .int .i64 k4] 29)) := ((Ext.refl _).alloc _).alloc _;have HX := hid hx;have HC := hid (h.ext hx);have HM := hid (fun w h => a3i w g b L h)
 have HK := hid (fun w => a0w (k3, k4) w)
 have HW := hid (fun (w : World) (h : CM w g b L) => h.look ((k1, k2), k3, k4))
 obtain ⟨z0, z1⟩ := Cnt.a2q h.good ((k1, k2), k3, k4);rw [hk] at HK;clear hx hk;generalize hz : Cnt.was L ((k1, k2), k3, k4) = z at *;clear h
 go_enter Tryz.func14, Tryz.ntmps14
 go_wp2_with fail
 refine (HM.o _ HC.o).mono ?_;rintro e w1 ⟨rfl, rfl⟩
 go_wp2_with fail
 refine (HK.o _).mono ?_;rintro e w2 ⟨rfl, he2⟩;have HX2 := hid (HX.o.trans he2);have HC2 := hid (HC.o.ext he2);have c1 := he2.cell c1;have c2 := he2.cell c2;have c3 := he2.cell c3;have c4 := he2.cell c4;clear he2 HX HC
 go_wp2
 have hn := Blk.new w2 92 #[.int .i64 k1, .int .i64 k2, .int .i64 k3, .int .i64 k4];have hx3 : Ext w2 (w2.alloc (.cells #[.int .i64 k1, .int .i64 k2, .int .i64 k3, .int .i64 k4] 92)) := (Ext.refl _).alloc _;have HX3 := hid (HX2.o.trans hx3);have HC3 := hid (HC2.o.ext hx3);clear c1 c2 c3 c4 HX2 hx3;generalize hw3 : w2.alloc (.cells #[.int .i64 k1, .int .i64 k2, .int .i64 k3, .int .i64 k4] 92) = w3 at *;have c0 : w3.cell? ⟨g, 0, none⟩ = some (.map (some b)) := HC3.o.box.cell 0;have c1 := hn.c0;have c2 := hn.c1;have c3 := hn.c2;have c4 := hn.c3;clear hn;generalize w2.heap.size = nk at *;refine a0D (by kernel_rfl) (by rfl) (by rfl) (by kernel_rfl) ?_
 refine ma ?_;refine ml5 c0 c1 c2 c3 c4 ?_;refine ml5 c0 c1 c2 c3 c4 ?_
 (first | (refine a1F Ext.refl rfl ?_) | (refine a1G Ext.refl rfl rfl ?_)); apply Exists.intro; refine ⟨?_, ?_⟩
 · intro a w' hR h1 h2
   have e1 : _ = _ := h1;have e2 : _ = _ := h2;have hl := HW.o w' (HC3.o.ext hR);go_simp;rfl
 refine ma ?_;refine a2t ?_;intro w4 hx4
 iterate 7 (rintro _ rfl)
 dsimp only [a0B];go_simp;have HX4 := hid (HX3.o.trans hx4);have HC4 := hid (HC3.o.ext hx4);have c0 := hx4.cell c0;have c1 := hx4.cell c1;have c2 := hx4.cell c2;have c3 := hx4.cell c3;have c4 := hx4.cell c4;clear hx4 HX3 HC3
 rcases hr with hr | hr
 · go_wp2
   go_ret
   exact ⟨rfl, HX4.o⟩
 have hr2 : ¬ n < -z := by omega
 go_wp2
 go_ret
 exact ⟨rfl, HX4.o⟩
theorem add_ok (w : World) (g b : Nat) (L : List Cnt.S) (h : CM w g b L) (k : Cnt.K) (n : Int) (hk : Mom.ok k.2 = true) (hr : - Cnt.was L k ≤ n) (hr2 : n ≤ 1073741824 - Cnt.was L k) (hz0 : Cnt.was L k + n ≠ 0) :
 Calls Tryz.prog 14 #[.pointer (some ⟨g, 0, none⟩), pV2 k.1, pV2 k.2, .int .i64 n] w fun e w' => e = .returned (.int .i64 0) ∧ CM w' g b (Cnt.b19 L (k, Cnt.was L k + n)) ∧ ∃ w1, Ext w w1 ∧ ExtM b w1 w' := by
 obtain ⟨⟨k1, k2⟩, k3, k4⟩ := k;dsimp only at *;obtain ⟨c1, c2, c3, c4⟩ := b4U w (.int .i64 k1) (.int .i64 k2) (.int .i64 k3) (.int .i64 k4);have hx : Ext w ((w.alloc (.cells #[.int .i64 k1, .int .i64 k2] 27)).alloc (.cells #[.int .i64 k3, .int .i64 k4] 29)) := ((Ext.refl _).alloc _).alloc _;have HX := hid hx;have HC := hid (h.ext hx);have HM := hid (fun w h => a3i w g b L h)
 have HK := hid (fun w => a0w (k3, k4) w)
 have HW := hid (fun (w : World) (h : CM w g b L) => h.look ((k1, k2), k3, k4))
 obtain ⟨z0, z1⟩ := Cnt.a2q h.good ((k1, k2), k3, k4);rw [hk] at HK;clear hx hk;generalize hz : Cnt.was L ((k1, k2), k3, k4) = z at *;have HDN := hid (fun (w w' : World) (h : CM w g b L) (hx : ExtM b w w') (l' : List Cnt.S) (hm : a2N kV vI w' b l') (hmem : ∀ x, x ∈ l' ↔ (x ∈ L ∧ x.1 ≠ ((k1, k2), k3, k4)) ∨ (z + n ≠ 0 ∧ x = (((k1, k2), k3, k4), z + n))) => h.done hx hm (by omega) (by omega) hmem)
 clear h
 go_enter Tryz.func14, Tryz.ntmps14
 go_wp2_with fail
 refine (HM.o _ HC.o).mono ?_;rintro e w1 ⟨rfl, rfl⟩
 go_wp2_with fail
 refine (HK.o _).mono ?_;rintro e w2 ⟨rfl, he2⟩;have HX2 := hid (HX.o.trans he2);have HC2 := hid (HC.o.ext he2);have c1 := he2.cell c1;have c2 := he2.cell c2;have c3 := he2.cell c3;have c4 := he2.cell c4;clear he2 HX HC
 go_wp2
 have hn := Blk.new w2 92 #[.int .i64 k1, .int .i64 k2, .int .i64 k3, .int .i64 k4];have hx3 : Ext w2 (w2.alloc (.cells #[.int .i64 k1, .int .i64 k2, .int .i64 k3, .int .i64 k4] 92)) := (Ext.refl _).alloc _;have HX3 := hid (HX2.o.trans hx3);have HC3 := hid (HC2.o.ext hx3);clear c1 c2 c3 c4 HX2 hx3;generalize hw3 : w2.alloc (.cells #[.int .i64 k1, .int .i64 k2, .int .i64 k3, .int .i64 k4] 92) = w3 at *;have c0 : w3.cell? ⟨g, 0, none⟩ = some (.map (some b)) := HC3.o.box.cell 0;have c1 := hn.c0;have c2 := hn.c1;have c3 := hn.c2;have c4 := hn.c3;clear hn;generalize w2.heap.size = nk at *;refine a0D (by kernel_rfl) (by rfl) (by rfl) (by kernel_rfl) ?_
 refine ma ?_;refine ml5 c0 c1 c2 c3 c4 ?_;refine ml5 c0 c1 c2 c3 c4 ?_
 (first | (refine a1F Ext.refl rfl ?_) | (refine a1G Ext.refl rfl rfl ?_)); apply Exists.intro; refine ⟨?_, ?_⟩
 · intro a w' hR h1 h2
   have e1 : _ = _ := h1;have e2 : _ = _ := h2;have hl := HW.o w' (HC3.o.ext hR);go_simp;rfl
 refine ma ?_;refine a2t ?_;intro w4 hx4
 iterate 7 (rintro _ rfl)
 dsimp only [a0B];go_simp;have HX4 := hid (HX3.o.trans hx4);have HC4 := hid (HC3.o.ext hx4);have c0 := hx4.cell c0;have c1 := hx4.cell c1;have c2 := hx4.cell c2;have c3 := hx4.cell c3;have c4 := hx4.cell c4;clear hx4 HX3 HC3;have g1 : ¬ n < -z := by omega
 have g2 : ¬ 1073741824 - z < n := by omega
 have g3 : (z + n == 0) = false := by simpa using hz0
 go_wp2
 refine a0f 8 [] [] Ext Ext (fun _ => True) (by kernel_rfl) (by kernel_rfl) (by kernel_rfl) (by kernel_rfl) (by kernel_rfl) (by kernel_rfl) (by kernel_rfl) (by rfl) (by rfl) (by kernel_rfl) (by kernel_rfl) (by kernel_rfl) (fun _ _ _ x y => x.trans y) Ext.refl (fun _ _ x => x) (Ext.refl _).drew (fun _ _ x _ => x) trivial ?_
 refine ya ?_;refine yl5 c0 c1 c2 c3 c4 ?_;refine yl5 c0 c1 c2 c3 c4 ?_;refine ya ?_;refine a02 ?_;intro w5 hx5 hS5
 iterate 8 (rintro _ rfl)
 dsimp only [a0B];go_simp;have HX5 := hid (HX4.o.trans hx5);have HC5 := hid (HC4.o.ext hx5);have c0 := hx5.cell c0;have c1 := hx5.cell c1;have c2 := hx5.cell c2;have c3 := hx5.cell c3;have c4 := hx5.cell c4;clear hx5 HX4 HC4 hS5;obtain ⟨w6, l6, hup, hx6, hm6, hmem6⟩ := HC5.o.put ((k1, k2), k3, k4) (z + n);dsimp only [kV, vI] at hup;have HM6 := hid hm6;have HE6 := hid hmem6;have HX6 := hid hx6;have c0 := hx6.cells _ _ c0;have c1 := hx6.cells _ _ c1;have c2 := hx6.cells _ _ c2;have c3 := hx6.cells _ _ c3;have c4 := hx6.cells _ _ c4;clear hx6 hm6 hmem6;simp only [a0q, List.drop_succ_cons, List.drop_zero]
 go_wp2
 rw [hup];simp only [Result.andThen];rw [Oper.upon_skip];clear hup
 go_wp2
 go_ret
 exact ⟨rfl, HDN.o _ _ HC5.o HX6.o _ HM6.o (fun x => by rw [HE6.o]; simp [hz0]), w5, HX5.o, HX6.o⟩
theorem add_zero (w : World) (g b : Nat) (L : List Cnt.S) (h : CM w g b L) (k : Cnt.K) (n : Int) (hk : Mom.ok k.2 = true) (hr : - Cnt.was L k ≤ n) (hr2 : n ≤ 1073741824 - Cnt.was L k) (hz0 : Cnt.was L k + n = 0) :
 Calls Tryz.prog 14 #[.pointer (some ⟨g, 0, none⟩), pV2 k.1, pV2 k.2, .int .i64 n] w fun e w' => e = .returned (.int .i64 0) ∧ CM w' g b (Cnt.b19 L (k, Cnt.was L k + n)) ∧ ∃ w1, Ext w w1 ∧ ExtM b w1 w' := by
 obtain ⟨⟨k1, k2⟩, k3, k4⟩ := k;dsimp only at *;obtain ⟨c1, c2, c3, c4⟩ := b4U w (.int .i64 k1) (.int .i64 k2) (.int .i64 k3) (.int .i64 k4);have hx : Ext w ((w.alloc (.cells #[.int .i64 k1, .int .i64 k2] 27)).alloc (.cells #[.int .i64 k3, .int .i64 k4] 29)) := ((Ext.refl _).alloc _).alloc _;have HX := hid hx;have HC := hid (h.ext hx);have HM := hid (fun w h => a3i w g b L h)
 have HK := hid (fun w => a0w (k3, k4) w)
 have HW := hid (fun (w : World) (h : CM w g b L) => h.look ((k1, k2), k3, k4))
 obtain ⟨z0, z1⟩ := Cnt.a2q h.good ((k1, k2), k3, k4);rw [hk] at HK;clear hx hk;generalize hz : Cnt.was L ((k1, k2), k3, k4) = z at *;have HDN := hid (fun (w w' : World) (h : CM w g b L) (hx : ExtM b w w') (l' : List Cnt.S) (hm : a2N kV vI w' b l') (hmem : ∀ x, x ∈ l' ↔ (x ∈ L ∧ x.1 ≠ ((k1, k2), k3, k4)) ∨ (z + n ≠ 0 ∧ x = (((k1, k2), k3, k4), z + n))) => h.done hx hm (by omega) (by omega) hmem)
 clear h
 go_enter Tryz.func14, Tryz.ntmps14
 go_wp2_with fail
 refine (HM.o _ HC.o).mono ?_;rintro e w1 ⟨rfl, rfl⟩
 go_wp2_with fail
 refine (HK.o _).mono ?_;rintro e w2 ⟨rfl, he2⟩;have HX2 := hid (HX.o.trans he2);have HC2 := hid (HC.o.ext he2);have c1 := he2.cell c1;have c2 := he2.cell c2;have c3 := he2.cell c3;have c4 := he2.cell c4;clear he2 HX HC
 go_wp2
 have hn := Blk.new w2 92 #[.int .i64 k1, .int .i64 k2, .int .i64 k3, .int .i64 k4];have hx3 : Ext w2 (w2.alloc (.cells #[.int .i64 k1, .int .i64 k2, .int .i64 k3, .int .i64 k4] 92)) := (Ext.refl _).alloc _;have HX3 := hid (HX2.o.trans hx3);have HC3 := hid (HC2.o.ext hx3);clear c1 c2 c3 c4 HX2 hx3;generalize hw3 : w2.alloc (.cells #[.int .i64 k1, .int .i64 k2, .int .i64 k3, .int .i64 k4] 92) = w3 at *;have c0 : w3.cell? ⟨g, 0, none⟩ = some (.map (some b)) := HC3.o.box.cell 0;have c1 := hn.c0;have c2 := hn.c1;have c3 := hn.c2;have c4 := hn.c3;clear hn;generalize w2.heap.size = nk at *;refine a0D (by kernel_rfl) (by rfl) (by rfl) (by kernel_rfl) ?_
 refine ma ?_;refine ml5 c0 c1 c2 c3 c4 ?_;refine ml5 c0 c1 c2 c3 c4 ?_
 (first | (refine a1F Ext.refl rfl ?_) | (refine a1G Ext.refl rfl rfl ?_)); apply Exists.intro; refine ⟨?_, ?_⟩
 · intro a w' hR h1 h2
   have e1 : _ = _ := h1;have e2 : _ = _ := h2;have hl := HW.o w' (HC3.o.ext hR);go_simp;rfl
 refine ma ?_;refine a2t ?_;intro w4 hx4
 iterate 7 (rintro _ rfl)
 dsimp only [a0B];go_simp;have HX4 := hid (HX3.o.trans hx4);have HC4 := hid (HC3.o.ext hx4);have c0 := hx4.cell c0;have c1 := hx4.cell c1;have c2 := hx4.cell c2;have c3 := hx4.cell c3;have c4 := hx4.cell c4;clear hx4 HX3 HC3;have g1 : ¬ n < -z := by omega
 have g2 : ¬ 1073741824 - z < n := by omega
 have g3 : (z + n == 0) = true := by simpa using hz0
 go_wp2
 refine a0f 8 [] [] Ext Ext (fun _ => True) (by kernel_rfl) (by kernel_rfl) (by kernel_rfl) (by kernel_rfl) (by kernel_rfl) (by kernel_rfl) (by kernel_rfl) (by rfl) (by rfl) (by kernel_rfl) (by kernel_rfl) (by kernel_rfl) (fun _ _ _ x y => x.trans y) Ext.refl (fun _ _ x => x) (Ext.refl _).drew (fun _ _ x _ => x) trivial ?_
 refine ya ?_;refine yl5 c0 c1 c2 c3 c4 ?_;refine yl5 c0 c1 c2 c3 c4 ?_;refine ya ?_;refine a02 ?_;intro w5 hx5 hS5
 iterate 8 (rintro _ rfl)
 dsimp only [a0B];go_simp;have HX5 := hid (HX4.o.trans hx5);have HC5 := hid (HC4.o.ext hx5);have c0 := hx5.cell c0;have c1 := hx5.cell c1;have c2 := hx5.cell c2;have c3 := hx5.cell c3;have c4 := hx5.cell c4;clear hx5 HX4 HC4 hS5;obtain ⟨w6, l6, hup, hx6, hm6, hmem6⟩ := HC5.o.put ((k1, k2), k3, k4) (z + n);dsimp only [kV, vI] at hup;rw [hz0] at hup;have HM6 := hid hm6;have HE6 := hid hmem6;have HX6 := hid hx6;have c0 := hx6.cells _ _ c0;have c1 := hx6.cells _ _ c1;have c2 := hx6.cells _ _ c2;have c3 := hx6.cells _ _ c3;have c4 := hx6.cells _ _ c4;clear hx6 hm6 hmem6;simp only [a0q, List.drop_succ_cons, List.drop_zero]
 go_wp2
 rw [hup];simp only [Result.andThen];rw [Oper.upon_skip];clear hup
 go_wp2
 refine a0f 5 [] [] Ext Ext (fun _ => True) (by kernel_rfl) (by kernel_rfl) (by kernel_rfl) (by kernel_rfl) (by kernel_rfl) (by kernel_rfl) (by kernel_rfl) (by rfl) (by rfl) (by kernel_rfl) (by kernel_rfl) (by kernel_rfl) (fun _ _ _ x y => x.trans y) Ext.refl (fun _ _ x => x) (Ext.refl _).drew (fun _ _ x _ => x) trivial ?_
 refine ya ?_;refine yl5 c0 c1 c2 c3 c4 ?_;refine yl5 c0 c1 c2 c3 c4 ?_;refine a02 ?_;intro w7 hx7 hS7
 iterate 5 (rintro _ rfl)
 dsimp only [a0B];go_simp;clear hS7;have hm7 := HM6.o.ext hx7;have hn6 := HM6.o.nodup;obtain ⟨w8, hdel, hm8, hx8⟩ := hm7.b1z keyK Tryz.underlying88 ((k1, k2), k3, k4);dsimp only [kV, vI] at hdel;have HM8 := hid hm8;have HX8 := hid hx8;have HX7 := hid hx7;have HN6 := hid hn6;clear hm7 hm8 hx8 hx7 hn6;simp only [a0q, List.drop_succ_cons, List.drop_zero]
 go_wp2
 go_ret
 have hxx : ExtM b w5 w8 := (HX6.o.trans (ExtM.of HX7.o)).trans HX8.o;refine ⟨rfl, HDN.o _ _ HC5.o hxx _ HM8.o (fun x => ?_), w5, HX5.o, hxx⟩
 rw [a52 HN6.o x, HE6.o];constructor
 · rintro ⟨q | rfl, hne⟩
   · exact .inl q
   exact absurd rfl hne
 rintro (⟨q1, q2⟩ | ⟨q1, _⟩)
 · exact ⟨.inl ⟨q1, q2⟩, q2⟩
 exact absurd hz0 q1
end Go.Proofs.YtdkejfjcchlnpaaGreat.Ct
