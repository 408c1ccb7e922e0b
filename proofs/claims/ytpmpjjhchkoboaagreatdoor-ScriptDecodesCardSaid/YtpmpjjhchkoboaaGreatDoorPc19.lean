/-
  ScMath3, ScMath4, GrReach, Scr, packed: what the claim needs of them.
-/
import Derived.Test.YtpmpjjhchkoboaaGreatDoorPc18
import Derived.Test.YtpmpjjhchkoboaaGreatDoorPc10
import Derived.Test.YtpmpjjhchkoboaaGreatDoorPc08
import Derived.Test.YtpmpjjhchkoboaaGreatDoorPc03
open Go.Lib (hid)
set_option maxHeartbeats 400000
set_option linter.unusedSimpArgs false
set_option linter.unusedVariables false
set_option maxRecDepth 100000
namespace Go.Ox.Sc
open Go.Ox.Num (St numP bytesP)
open Go.Ox.Gr (PS bd numsL okI numC bd_mk)
attribute [local irreducible] Num.numP Num.bytesP
theorem numP_stays {s : St} (h : s.bad = true) : (numP s).1.bad = true := by
 cases hb : (numP s).1.bad with
 | true => rfl
 | false => rw [(numC hb).1] at h; cases h
def PutsR {α : Type} (f : St → Option (St × α)) (g : α → List UInt8) (x : α) : Prop := ∀ r, f ⟨g x ++ r, false⟩ = some (⟨r, false⟩, x)
theorem forR_put {α : Type} {f : St → Option (St × α)} {g : α → List UInt8} : ∀ (l : List α) (r : List UInt8), (∀ x ∈ l, PutsR f g x) → forR f l.length ⟨l.flatMap g ++ r, false⟩ = some (⟨r, false⟩, l)
 | [], r, _ => rfl
 | x :: l, r, h => by
  have e : (x :: l).flatMap g ++ r = g x ++ (l.flatMap g ++ r) := by simp
  rw [List.length_cons, forR, e, h x List.mem_cons_self]
  dsimp only
  rw [forR_put l r fun y hy => h y (List.mem_cons_of_mem _ hy)]
theorem numR_put {x : Int} (h : okI x) : PutsR numR (fun x => Num.put x.toNat) x := fun r => by
 unfold okI at h
 unfold numR
 rw [Num.numP_put (by omega)]
 dsimp only
 rw [Int.toNat_of_nonneg h.1]
theorem rowR_put {α : Type} {f : St → Option (St × α)} {g : α → List UInt8} {most : Int} {l : List α} (hm : (l.length : Int) ≤ most) (hb : l.length < 9223372036854775808) (h : ∀ x ∈ l, PutsR f g x) (r : List UInt8) :
 rowR most f ⟨(Num.put l.length ++ l.flatMap g) ++ r, false⟩ = some (⟨r, false⟩, l) := by
 have e : countR most ⟨(Num.put l.length ++ l.flatMap g) ++ r, false⟩ = (⟨l.flatMap g ++ r, false⟩, l.length) := by
  unfold countR
  rw [List.append_assoc, Num.numP_put hb]
  dsimp only
  rw [if_neg (by omega)]
 unfold rowR
 rw [e]
 exact forR_put l r h
theorem seqR_put : ∀ (l : List Int) (r : List UInt8), (∀ x ∈ l, okI x) → seqR l.length ⟨numsL l ++ r, false⟩ = (⟨r, false⟩, l)
 | [], r, _ => rfl
 | x :: l, r, h => by
  have hx := h x List.mem_cons_self
  unfold okI at hx
  have e : numsL (x :: l) ++ r = Num.put x.toNat ++ (numsL l ++ r) := by simp [numsL]
  rw [List.length_cons, seqR, e, Num.numP_put (by omega)]
  dsimp only
  rw [seqR_put l r fun y hy => h y (List.mem_cons_of_mem _ hy), Int.toNat_of_nonneg hx.1]
theorem partR_put {b : List UInt8} (hb : b.length < 9223372036854775808) (r : List UInt8) : partR ⟨partL b ++ r, false⟩ = (⟨r, false⟩, b) := by
 unfold partR partL
 rw [List.append_assoc, Num.numP_put hb]
 dsimp only
 rw [Num.bytesP_yes rfl (by simp)]
 simp
theorem bagR_put {b : Bag} (hm : Rec.may b = 0) (hs : Rec.srt b = b) : PutsR bagR bagL b := fun r => by
 have hd := Rec.dec_yes (Rec.enc_dec hm)
 rw [hs] at hd
 unfold bagR bagL
 rw [partR_put (enc_lt hm)]
 dsimp only
 rw [if_pos hd.2, hd.1]
theorem epR_put {l : List Bag} (hl : epOk l = true) (hs : ∀ b ∈ l, Rec.srt b = b) : PutsR epR epL l := fun r => by
 unfold epOk at hl
 simp only [Bool.and_eq_true, decide_eq_true_eq, List.all_eq_true] at hl
 exact rowR_put (by omega) (by omega) (fun b hb => bagR_put (hl.2 b hb) (hs b hb)) r
theorem actR_put {a : Act} (h : actOk a = true) : PutsR actR actL a := fun r => by
 obtain ⟨⟨k, n, x, y, t⟩, ks⟩ := a
 unfold actOk at h
 simp only [Bool.and_eq_true, decide_eq_true_eq, List.all_eq_true] at h
 obtain ⟨⟨⟨⟨⟨⟨⟨h1, h2⟩, h3⟩, h4⟩, h5⟩, h6⟩, h7⟩, h8⟩ := h
 have e : actL ((k, n, x, y, t), ks) ++ r = numsL [k, n, x, y, t] ++ ((Num.put ks.length ++ ks.flatMap fun x => Num.put x.toNat) ++ r) := by
  unfold actL actN
  dsimp only
  rw [numsL_flat ks]
  simp only [List.append_assoc]
 have hs := seqR_put [k, n, x, y, t] ((Num.put ks.length ++ ks.flatMap fun x => Num.put x.toNat) ++ r) (by
  intro z hz
  simp at hz
  rcases hz with rfl | rfl | rfl | rfl | rfl
  · unfold okI; omega
  · exact inR_ok h3 (by omega)
  · exact inR_ok h4 (by omega)
  · exact inR_ok h5 (by omega)
  · exact inR_ok h6 (by omega))
 have hr := rowR_put (f := numR) (g := fun x => Num.put x.toNat) (most := 256) (l := ks) (by omega) (by omega) (fun x hx => numR_put (inR_ok (h8 x hx) (by omega))) r
 have e5 : ([k, n, x, y, t] : List Int).length = 5 := rfl
 rw [e5] at hs
 unfold actR
 rw [e, hs]
 dsimp only
 rw [hr]
 rfl
theorem getR_put {g : Gr.G} (h : Gr.gOk g = true) : (Gr.getR (Gr.grL g)).2 = true ∧ Gr.gres (Gr.getR (Gr.grL g)) = g := by
 have hG : Gr.getP (Gr.grL g) = (g, true) := Gr.get_put (Gr.gOk_fit (l := g.1) (out := g.2) h).1 (Gr.gOk_fit (l := g.1) (out := g.2) h).2 h
 obtain ⟨a1, a2⟩ := Gr.get_same (Gr.grL g)
 rw [hG] at a1 a2
 have a1 : (Gr.getR (Gr.grL g)).2 = true := a1.symm
 refine ⟨a1, ?_⟩
 unfold Gr.gres
 rw [if_pos a1]
 exact (a2 a1).symm
theorem grL_lt {s : Sc} (h : scOk s = true) : (Gr.grL s.g).length < 9223372036854775808 := by
 have h2 := (scOk_parts h).2.1
 have := Gr.grL_len (l := s.g.1) (out := s.g.2) (Gr.gOk_fit h2).1 (Gr.gOk_fit h2).2
 have e : ((s.g.1, s.g.2) : Gr.G) = s.g := rfl
 rw [e] at this
 omega
theorem decR_put {s : Sc} (h : Canon s) : decR (scL s) = some s := by
 obtain ⟨h0, hs⟩ := h
 have hg := grL_lt h0
 obtain ⟨h1, h2, h3, h4, h5, h6⟩ := scOk_parts h0
 obtain ⟨cfg, g, ins, acts⟩ := s
 dsimp only at *
 have hc := seqR_put (cfgN cfg) (partL (Gr.grL g) ++ (Num.put ins.length ++ ins.flatMap epL ++ (Num.put acts.length ++ acts.flatMap actL))) fun x hx => inR_ok (h1 x hx) (by omega)
 have hp := partR_put hg (Num.put ins.length ++ ins.flatMap epL ++ (Num.put acts.length ++ acts.flatMap actL))
 obtain ⟨hG, hG2⟩ := getR_put h2
 have hI := rowR_put (f := epR) (g := epL) (most := 16) (l := ins) (by omega) (by omega) (fun l hl => epR_put (h4 l hl) (hs l hl)) (Num.put acts.length ++ acts.flatMap actL)
 have hA := rowR_put (f := actR) (g := actL) (most := 256) (l := acts) (by omega) (by omega) (fun a ha => actR_put (h6 a ha)) []
 rw [List.append_nil] at hA
 have e4 : (cfgN cfg).length = 4 := rfl
 rw [e4] at hc
 have hcfg : cfg4 (cfgN cfg) = cfg := rfl
 unfold decR scL
 dsimp only
 rw [hc]
 dsimp only
 rw [hp]
 dsimp only
 rw [if_pos hG, hI]
 dsimp only
 rw [hA]
 dsimp only
 rw [hG2, hcfg, if_neg]
 rintro (q | q | q)
 · cases q
 · exact q rfl
 · rw [h0] at q; cases q
def CanonsR {α : Type} (f : St → Option (St × α)) (g : α → List UInt8) (P : α → Prop) : Prop := ∀ s t x, f s = some (t, x) → t.bad = false → s.bad = false ∧ s.l = g x ++ t.l ∧ P x
theorem forR_canon {α : Type} {f : St → Option (St × α)} {g : α → List UInt8} {P : α → Prop} (hf : CanonsR f g P) : ∀ (n : Nat) (s t : St) (l : List α), forR f n s = some (t, l) → t.bad = false → s.bad = false ∧ s.l = l.flatMap g ++ t.l ∧ l.length = n ∧ ∀ x ∈ l, P x
 | 0, s, t, l, h, hb => by
  unfold forR at h
  injection h with h
  injection h with h1 h2
  subst h1; subst h2
  exact ⟨hb, rfl, rfl, fun x hx => by simp at hx⟩
 | n + 1, s, t, l, h, hb => by
  rw [forR] at h
  cases h1 : f s with
  | none => rw [h1] at h; cases h
  | some r =>
   rw [h1] at h
   dsimp only at h
   cases h2 : forR f n r.1 with
   | none => rw [h2] at h; cases h
   | some q =>
    rw [h2] at h
    injection h with h
    injection h with e1 e2
    subst e1; subst e2
    obtain ⟨a1, a2, a3, a4⟩ := forR_canon hf n r.1 q.1 q.2 h2 hb
    obtain ⟨b1, b2, b3⟩ := hf s r.1 r.2 h1 a1
    refine ⟨b1, by rw [List.flatMap_cons, b2, a2, List.append_assoc], by simp [a3], fun x hx => ?_⟩
    rcases List.mem_cons.1 hx with rfl | hx
    · exact b3
    · exact a4 x hx
theorem rowR_canon {α : Type} {f : St → Option (St × α)} {g : α → List UInt8} {P : α → Prop} (most : Int) (hf : CanonsR f g P) : CanonsR (rowR most f) (fun l => Num.put l.length ++ l.flatMap g) (fun l => (l.length : Int) ≤ most ∧ ∀ x ∈ l, P x) := by
 intro s t l h hb
 unfold rowR at h
 obtain ⟨a1, a2, a3, a4⟩ := forR_canon hf _ _ _ _ h hb
 unfold countR at a1 a2 a3
 by_cases hm : most < ((numP s).2 : Int)
 · rw [if_pos hm] at a1; cases a1
 · rw [if_neg hm] at a1 a2 a3
   obtain ⟨b1, b2, b3⟩ := numC a1
   exact ⟨b1, by show s.l = (Num.put l.length ++ l.flatMap g) ++ t.l; rw [a3, b2, a2, List.append_assoc], by rw [a3]; omega, a4⟩
theorem numR_canon : CanonsR numR (fun x => Num.put x.toNat) (fun x => okI x) := by
 intro s t x h hb
 unfold numR at h
 injection h with h
 injection h with h1 h2
 subst h1; subst h2
 obtain ⟨b1, b2, b3⟩ := numC hb
 exact ⟨b1, by show s.l = Num.put ((numP s).2 : Int).toNat ++ (numP s).1.l; rw [Int.toNat_natCast]; exact b2, by unfold okI; omega⟩
theorem seqR_canon : ∀ (n : Nat) (s : St), (seqR n s).1.bad = false → s.bad = false ∧ s.l = numsL (seqR n s).2 ++ (seqR n s).1.l ∧ (seqR n s).2.length = n
 | 0, s, h => ⟨h, rfl, rfl⟩
 | n + 1, s, h => by
  have e : seqR (n + 1) s = ((seqR n (numP s).1).1, ((numP s).2 : Int) :: (seqR n (numP s).1).2) := rfl
  rw [e] at h ⊢
  obtain ⟨a1, a2, a3⟩ := seqR_canon n _ h
  obtain ⟨b1, b2, b3⟩ := numC a1
  refine ⟨b1, ?_, by simp [a3]⟩
  have : ∀ (x : Int) l, numsL (x :: l) = Num.put x.toNat ++ numsL l := fun x l => by simp [numsL]
  dsimp only
  rw [this, Int.toNat_natCast, b2, a2, List.append_assoc]
theorem partR_canon {s : St} (h : (partR s).1.bad = false) : s.bad = false ∧ s.l = partL (partR s).2 ++ (partR s).1.l := by
 unfold partR at h ⊢
 obtain ⟨c1, c2, c3⟩ := bytes_canon h
 obtain ⟨b1, b2, b3⟩ := numC c1
 refine ⟨b1, ?_⟩
 unfold partL
 rw [show (bytesP ((numP s).2 : Int) (numP s).1).2.length = (numP s).2 by omega, b2, c2]
 simp only [List.append_assoc]
theorem bagR_canon : CanonsR bagR bagL (fun b => Rec.may b = 0 ∧ Rec.srt b = b) := by
 intro s t x h hb
 unfold bagR at h
 by_cases h0 : Rec.decE (partR s).2 = 0
 · rw [if_pos h0] at h
   injection h with h
   injection h with h1 h2
   subst h1; subst h2
   obtain ⟨a1, a2⟩ := partR_canon hb
   have hd : ∃ l, Rec.Dec (partR s).2 l := by
    unfold Rec.decE at h0
    by_cases hx : ∃ l, Rec.Dec (partR s).2 l
    · exact hx
    · rw [if_neg hx] at h0; cases h0
   obtain ⟨l, hl⟩ := hd
   obtain ⟨d1, d2, d3⟩ := hl.back
   rw [(Rec.dec_yes hl).1]
   exact ⟨a1, by unfold bagL; rw [d3]; exact a2, d1, d2⟩
 · rw [if_neg h0] at h; cases h
theorem epR_canon : CanonsR epR epL (fun l => epOk l = true ∧ ∀ b ∈ l, Rec.srt b = b) := by
 intro s t x h hb
 obtain ⟨a1, a2, a3, a4⟩ := rowR_canon 4 bagR_canon s t x h hb
 refine ⟨a1, a2, ?_, fun b hb => (a4 b hb).2⟩
 unfold epOk
 simp only [Bool.and_eq_true, decide_eq_true_eq, List.all_eq_true]
 exact ⟨by omega, fun b hb => (a4 b hb).1⟩
theorem actR_canon : CanonsR actR actL (fun _ => True) := by
 intro s t x h hb
 unfold actR at h
 cases h1 : rowR 256 numR (seqR 5 s).1 with
 | none => rw [h1] at h; cases h
 | some q =>
  rw [h1] at h
  injection h with h
  injection h with e1 e2
  subst e1; subst e2
  obtain ⟨a1, a2, a3, a4⟩ := rowR_canon 256 numR_canon _ _ _ h1 hb
  obtain ⟨b1, b2, b3⟩ := seqR_canon 5 s a1
  refine ⟨b1, ?_, trivial⟩
  unfold actL
  have e5 : actN (act5 (seqR 5 s).2, q.2) = (seqR 5 s).2 := list5 b3
  dsimp only
  rw [e5, numsL_flat q.2, b2, a2]
  simp only [List.append_assoc]
theorem getR_back {b : List UInt8} (h : (Gr.getR b).2 = true) : Gr.grL (Gr.gres (Gr.getR b)) = b := by
 obtain ⟨a1, a2⟩ := Gr.get_same b
 have hp : (Gr.getP b).2 = true := a1.trans h
 have e : Gr.gres (Gr.getR b) = (Gr.getP b).1 := by unfold Gr.gres; rw [if_pos h]; exact (a2 h).symm
 rw [e]
 exact (Gr.put_get hp).1
theorem decR_canon {b : List UInt8} {s : Sc} (h : decR b = some s) : scL s = b ∧ Canon s := by
 unfold decR at h
 dsimp only at h
 have H4 := seqR_canon 4 ⟨b, false⟩
 generalize seqR 4 ⟨b, false⟩ = c at *
 have HP := partR_canon (s := c.1)
 generalize partR c.1 = p at *
 have HG := getR_back (b := p.2)
 generalize Gr.getR p.2 = G at *
 by_cases hg : G.2 = true
 · rw [if_pos hg] at h
   cases hI : rowR 16 epR p.1 with
   | none => rw [hI] at h; cases h
   | some I =>
    rw [hI] at h
    dsimp only at h
    cases hA : rowR 256 actR I.1 with
    | none => rw [hA] at h; cases h
    | some A =>
     rw [hA] at h
     dsimp only at h
     by_cases hx : A.1.bad = true ∨ A.1.l ≠ [] ∨ scOk ⟨cfg4 c.2, Gr.gres G, I.2, A.2⟩ = false
     · rw [if_pos hx] at h; cases h
     · rw [if_neg hx] at h
       injection h with h
       subst h
       have x1 : A.1.bad = false := by cases q : A.1.bad with | true => exact absurd (.inl q) hx | false => rfl
       have x2 : A.1.l = [] := by cases q : A.1.l with | nil => rfl | cons y z => exact absurd (.inr (.inl (by rw [q]; simp))) hx
       have x3 : scOk ⟨cfg4 c.2, Gr.gres G, I.2, A.2⟩ = true := by cases q : scOk ⟨cfg4 c.2, Gr.gres G, I.2, A.2⟩ with | true => rfl | false => exact absurd (.inr (.inr q)) hx
       obtain ⟨a1, a2, a3, a4⟩ := rowR_canon 256 actR_canon I.1 A.1 A.2 hA x1
       obtain ⟨i1, i2, i3, i4⟩ := rowR_canon 16 epR_canon p.1 I.1 I.2 hI a1
       obtain ⟨p1, p2⟩ := HP i1
       obtain ⟨c1, c2, c3⟩ := H4 p1
       refine ⟨?_, x3, fun l hl b hb => (i4 l hl).2 b hb⟩
       unfold scL
       dsimp only
       rw [list4 c3, HG hg]
       dsimp only at c2
       rw [c2, p2, i2, a2, x2, List.append_nil]
 · rw [if_neg hg] at h; cases h
theorem dec_same (b : List UInt8) : decR b = if (decP b).2 = true then some (decP b).1 else none := by
 by_cases hp : (decP b).2 = true
 · rw [if_pos hp]
   obtain ⟨h1, h2⟩ := dec_canon hp
   have := decR_put h2
   rw [h1] at this
   exact this
 · rw [if_neg hp]
   cases hr : decR b with
   | none => rfl
   | some s =>
    obtain ⟨h1, h2⟩ := decR_canon hr
    have := dec_put h2 (grL_lt h2.1)
    rw [h1] at this
    rw [this] at hp
    exact absurd rfl hp
end Go.Ox.Sc
namespace Go.Ox.Sc
open Go.Ox.Gr (numsL okI numsL_len put_le9 flat_le)
theorem partL_len {b : List UInt8} (h : b.length < 9223372036854775808) : (partL b).length ≤ b.length + 9 := by
 unfold partL
 have := put_le9 (n := b.length) h
 rw [List.length_append]; omega
theorem bagL_len {b : Bag} (h : Rec.may b = 0) : (bagL b).length ≤ 8 * b.length + 18 ∧ b.length ≤ 4096 := by
 have h1 := Rec.enc_len h
 have h2 := (Rec.may_ok h).2
 have h3 := partL_len (b := Rec.encL b) (by omega)
 unfold bagL
 exact ⟨by omega, by omega⟩
theorem epL_len {l : List Bag} {c : Nat} (h : epOk l = true) (hc : ∀ b ∈ l, b.length ≤ c) : (epL l).length ≤ 9 + 4 * (8 * c + 18) := by
 unfold epOk at h
 simp only [Bool.and_eq_true, decide_eq_true_eq, List.all_eq_true] at h
 have h1 := put_le9 (n := l.length) (by omega)
 have h2 := flat_le bagL (8 * c + 18) l fun b hb => by have := (bagL_len (h.2 b hb)).1; have := hc b hb; omega
 have h3 : l.length * (8 * c + 18) ≤ 4 * (8 * c + 18) := Nat.mul_le_mul_right _ h.1
 unfold epL
 rw [List.length_append]; omega
theorem ep_le {l : List Bag} (h : epOk l = true) : ∀ b ∈ l, b.length ≤ 4096 := fun b hb => by
 unfold epOk at h
 simp only [Bool.and_eq_true, decide_eq_true_eq, List.all_eq_true] at h
 exact (bagL_len (h.2 b hb)).2
theorem numsL_le (c : Nat) : ∀ (l : List Int), (∀ x ∈ l, (Num.put x.toNat).length ≤ c) → (numsL l).length ≤ l.length * c := fun l h => by
 rw [numsL_flat]; exact flat_le _ c l h
theorem actOk_parts {a : Act} (h : actOk a = true) : (∀ x ∈ actN a, okI x) ∧ a.2.length ≤ 256 ∧ ∀ k ∈ a.2, 0 ≤ k ∧ k ≤ 64 := by
 obtain ⟨⟨k, n, x, y, t⟩, ks⟩ := a
 unfold actOk at h
 simp only [Bool.and_eq_true, decide_eq_true_eq, List.all_eq_true] at h
 obtain ⟨⟨⟨⟨⟨⟨⟨h1, h2⟩, h3⟩, h4⟩, h5⟩, h6⟩, h7⟩, h8⟩ := h
 refine ⟨fun z hz => ?_, h7, fun z hz => by have := h8 z hz; unfold inR at this; simp only [Bool.and_eq_true, decide_eq_true_eq] at this; exact this⟩
 unfold actN at hz
 simp at hz
 rcases hz with rfl | rfl | rfl | rfl | rfl
 · unfold okI; omega
 · exact inR_ok h3 (by omega)
 · exact inR_ok h4 (by omega)
 · exact inR_ok h5 (by omega)
 · exact inR_ok h6 (by omega)
theorem actL_len {a : Act} (h : actOk a = true) : (actL a).length ≤ 400 := by
 obtain ⟨h1, h2, h3⟩ := actOk_parts h
 have a1 := numsL_len (actN a) h1
 have a2 := put_le9 (n := a.2.length) (by omega)
 have a3 := numsL_le 1 a.2 fun x hx => by
  have := h3 x hx
  rw [Num.put_len]
  split <;> omega
 have a4 : (actN a).length = 5 := rfl
 unfold actL
 rw [List.length_append, List.length_append]
 omega
theorem gr_len {g : Gr.G} (h : Gr.gOk g = true) : (Gr.grL g).length ≤ 80000 := by
 have hf := Gr.gOk_fit (l := g.1) (out := g.2) h
 have h2 : (Gr.ndsL 2 g.1).length ≤ 9 + 32 * (63 + (9 + 32 * (63 + 9))) := Gr.fit_step (C := 9 + 32 * (63 + 9)) hf.1 (fun l h1 => Gr.fit_step (C := 9) h1 (fun l h0 => by
  obtain rfl : l = [] := h0
  exact put_le9 (by simp)))
 have h3 := put_le9 (n := g.2.toNat) (by have := hf.2.1; have := hf.2.2; omega)
 unfold Gr.grL
 rw [List.length_append]
 omega
theorem scL_len {s : Sc} {c : Nat} (h : scOk s = true) (hc : ∀ l ∈ s.ins, ∀ b ∈ l, b.length ≤ c) : (scL s).length ≤ 200000 + 16 * (9 + 4 * (8 * c + 18)) := by
 obtain ⟨h1, h2, h3, h4, h5, h6⟩ := scOk_parts h
 have a1 := numsL_len (cfgN s.cfg) fun x hx => inR_ok (h1 x hx) (by omega)
 have a2 := gr_len h2
 have a3 := partL_len (b := Gr.grL s.g) (by omega)
 have a4 := put_le9 (n := s.ins.length) (by omega)
 have a5 := put_le9 (n := s.acts.length) (by omega)
 have a6 := flat_le epL (9 + 4 * (8 * c + 18)) s.ins fun l hl => epL_len (h4 l hl) (hc l hl)
 have a7 := flat_le actL 400 s.acts fun a ha => actL_len (h6 a ha)
 have a8 : s.ins.length * (9 + 4 * (8 * c + 18)) ≤ 16 * (9 + 4 * (8 * c + 18)) := Nat.mul_le_mul_right _ h3
 have a9 : (cfgN s.cfg).length = 4 := rfl
 unfold scL
 simp only [List.length_append]
 omega
end Go.Ox.Sc
namespace Go.Ox.Gr
open Go.RowKit
def reachB : List Nd := [.mk 10 [] 0 0 0 [], .mk 11 [] 0 0 0 [], .mk 6 [0, 1] 23 0 0 [], .mk 2 [2] 3 0 0 [], .mk 2 [3] 5 1 0 [], .mk 8 [0, 4] 0 0 0 [], .mk 7 [5] 0 0 0 []]
def reachN (n : Int) : List Nd := [.mk 1 [] 0 0 0 [], .mk 1 [] 0 0 1 [], .mk 9 [1] 0 0 n reachB]
def ndC (op kind fa a : Int) (u b : Value) : List Value := [.int .i64 op, u, .int .i64 kind, .int .i64 fa, .int .i64 a, b]
theorem NdQ.mk {d : Nat} {w : World} {op kind fa a : Int} {u b : Value} {ins : List Int} {body : List Nd} (hu : RE w u ins) (hb : NodesR d w b body) : NdQ (NodesR d) w (ndC op kind fa a u b) (.mk op ins kind fa a body) := ⟨u, b, rfl, hu, hb⟩
def Each2 (Q : List Value → Nd → Prop) : List (List Value) → List Nd → Prop
 | [], [] => True
 | r :: rs, x :: xs => (r.length = 6 ∧ Q r x) ∧ Each2 Q rs xs
 | _, _ => False
theorem Each2.len {Q : List Value → Nd → Prop} : ∀ {rs : List (List Value)} {xs : List Nd}, Each2 Q rs xs → rs.length = xs.length
 | [], [], _ => rfl
 | [], _ :: _, h => h.elim
 | _ :: _, [], h => h.elim
 | _ :: rs, _ :: xs, h => by simp [Each2.len h.2]
theorem Each2.at_ {Q : List Value → Nd → Prop} : ∀ {rs : List (List Value)} {xs : List Nd}, Each2 Q rs xs → ∀ (i : Nat) (r : List Value) (x : Nd), rs[i]? = some r → xs[i]? = some x → r.length = 6 ∧ Q r x
 | [], [], _, _, _, _, h, _ => by simp at h
 | [], _ :: _, h, _, _, _, _, _ => h.elim
 | _ :: _, [], h, _, _, _, _, _ => h.elim
 | r :: rs, x :: xs, h, i, r', x', hr, hx => by
  cases i with
  | zero => simp at hr hx; subst hr; subst hx; exact h.1
  | succ i => simp at hr hx; exact Each2.at_ h.2 i r' x' hr hx
theorem NodesR.lit {w w' : World} {d n : Nat} (cells : Array Value) (E : TypeId) (rows : List (List Value)) (l : List Nd) (hw : w' = w.alloc (.cells cells E)) (hn : rows.length = n) (hm : n ≤ maxLen) (hc : cells.toList = rows.flatten) (hcs : cells.size = n * 6) (h : Each2 (NdQ (NodesR d) w') rows l) :
 NodesR (d + 1) w' (.slice (some ⟨w.heap.size, 0, none⟩) n n) l := by
 refine NodesR.of_rs ⟨rows, ?_, h.len, h.at_⟩
 rw [hn, ← hc, hw]
 exact Rd.of_own (base := w.heap.size) (World.ownsRow_lit w cells n (Nat.le_refl _) hm hcs)
end Go.Ox.Gr
namespace Go.Proofs.YtpmpjjhchkoboaaGreatDoor
open Go.RowKit Go.Ox Go.Ox.Gr
theorem reach_mem {n : Int} {w w0 w1 w2 w3 w4 w5 w6 w7 w8 : World}
 (h0 : w0 = w.alloc (.cells #[.slice (some ⟨w.heap.size + 1 + 1 + 1 + 1 + 1 + 1 + 1 + 1, 0, none⟩) 3 3, .int .i64 2] 26))
 (h1 : w1 = w0.alloc (.cells #[.int .i64 1] 3))
 (h2 : w2 = w1.alloc (.cells #[.int .i64 0, .int .i64 1] 3))
 (h3 : w3 = w2.alloc (.cells #[.int .i64 2] 3))
 (h4 : w4 = w3.alloc (.cells #[.int .i64 3] 3))
 (h5 : w5 = w4.alloc (.cells #[.int .i64 0, .int .i64 4] 3))
 (h6 : w6 = w5.alloc (.cells #[.int .i64 5] 3))
 (h7 : w7 = w6.alloc (.cells #[.int .i64 10, .slice none 0 0, .int .i64 0, .int .i64 0, .int .i64 0, .slice none 0 0, .int .i64 11, .slice none 0 0, .int .i64 0, .int .i64 0, .int .i64 0, .slice none 0 0,
  .int .i64 6, .slice (some ⟨w.heap.size + 1 + 1, 0, none⟩) 2 2, .int .i64 23, .int .i64 0, .int .i64 0, .slice none 0 0, .int .i64 2, .slice (some ⟨w.heap.size + 1 + 1 + 1, 0, none⟩) 1 1, .int .i64 3, .int .i64 0, .int .i64 0, .slice none 0 0,
  .int .i64 2, .slice (some ⟨w.heap.size + 1 + 1 + 1 + 1, 0, none⟩) 1 1, .int .i64 5, .int .i64 1, .int .i64 0, .slice none 0 0, .int .i64 8, .slice (some ⟨w.heap.size + 1 + 1 + 1 + 1 + 1, 0, none⟩) 2 2, .int .i64 0, .int .i64 0, .int .i64 0, .slice none 0 0,
  .int .i64 7, .slice (some ⟨w.heap.size + 1 + 1 + 1 + 1 + 1 + 1, 0, none⟩) 1 1, .int .i64 0, .int .i64 0, .int .i64 0, .slice none 0 0] 112))
 (h8 : w8 = w7.alloc (.cells #[.int .i64 1, .slice none 0 0, .int .i64 0, .int .i64 0, .int .i64 0, .slice none 0 0, .int .i64 1, .slice none 0 0, .int .i64 0, .int .i64 0, .int .i64 1, .slice none 0 0,
  .int .i64 9, .slice (some ⟨w.heap.size + 1, 0, none⟩) 1 1, .int .i64 0, .int .i64 0, .int .i64 n, .slice (some ⟨w.heap.size + 1 + 1 + 1 + 1 + 1 + 1 + 1, 0, none⟩) 7 7] 112)) :
 Blk w8 w.heap.size 26 #[.slice (some ⟨w.heap.size + 1 + 1 + 1 + 1 + 1 + 1 + 1 + 1, 0, none⟩) 3 3, .int .i64 2] ∧ NodesR 2 w8 (.slice (some ⟨w.heap.size + 1 + 1 + 1 + 1 + 1 + 1 + 1 + 1, 0, none⟩) 3 3) (reachN n) ∧ Ext w w8 := by
 have s0 : w0.heap.size = w.heap.size + 1 := by rw [h0]; simp
 have s1 : w1.heap.size = w.heap.size + 1 + 1 := by rw [h1, ← s0]; simp
 have s2 : w2.heap.size = w.heap.size + 1 + 1 + 1 := by rw [h2, ← s1]; simp
 have s3 : w3.heap.size = w.heap.size + 1 + 1 + 1 + 1 := by rw [h3, ← s2]; simp
 have s4 : w4.heap.size = w.heap.size + 1 + 1 + 1 + 1 + 1 := by rw [h4, ← s3]; simp
 have s5 : w5.heap.size = w.heap.size + 1 + 1 + 1 + 1 + 1 + 1 := by rw [h5, ← s4]; simp
 have s6 : w6.heap.size = w.heap.size + 1 + 1 + 1 + 1 + 1 + 1 + 1 := by rw [h6, ← s5]; simp
 have s7 : w7.heap.size = w.heap.size + 1 + 1 + 1 + 1 + 1 + 1 + 1 + 1 := by rw [h7, ← s6]; simp
 have b0 : Blk w0 w.heap.size 26 #[.slice (some ⟨w.heap.size + 1 + 1 + 1 + 1 + 1 + 1 + 1 + 1, 0, none⟩) 3 3, .int .i64 2] := by rw [h0]; exact Blk.new _ _ _
 have r1 : RE w1 (.slice (some ⟨w.heap.size + 1, 0, none⟩) 1 1) ([1] : List Int) := by rw [← s0, h1]; exact RE.lit w0 #[.int .i64 1] 3 1 [1] rfl (by omega) rfl
 have r2 : RE w2 (.slice (some ⟨w.heap.size + 1 + 1, 0, none⟩) 2 2) ([0, 1] : List Int) := by rw [← s1, h2]; exact RE.lit w1 #[.int .i64 0, .int .i64 1] 3 2 [0, 1] rfl (by omega) rfl
 have r3 : RE w3 (.slice (some ⟨w.heap.size + 1 + 1 + 1, 0, none⟩) 1 1) ([2] : List Int) := by rw [← s2, h3]; exact RE.lit w2 #[.int .i64 2] 3 1 [2] rfl (by omega) rfl
 have r4 : RE w4 (.slice (some ⟨w.heap.size + 1 + 1 + 1 + 1, 0, none⟩) 1 1) ([3] : List Int) := by rw [← s3, h4]; exact RE.lit w3 #[.int .i64 3] 3 1 [3] rfl (by omega) rfl
 have r5 : RE w5 (.slice (some ⟨w.heap.size + 1 + 1 + 1 + 1 + 1, 0, none⟩) 2 2) ([0, 4] : List Int) := by rw [← s4, h5]; exact RE.lit w4 #[.int .i64 0, .int .i64 4] 3 2 [0, 4] rfl (by omega) rfl
 have r6 : RE w6 (.slice (some ⟨w.heap.size + 1 + 1 + 1 + 1 + 1 + 1, 0, none⟩) 1 1) ([5] : List Int) := by rw [← s5, h6]; exact RE.lit w5 #[.int .i64 5] 3 1 [5] rfl (by omega) rfl
 have e1 : Ext w0 w1 := by rw [h1]; exact (Ext.refl _).alloc _
 have e2 : Ext w1 w2 := by rw [h2]; exact (Ext.refl _).alloc _
 have e3 : Ext w2 w3 := by rw [h3]; exact (Ext.refl _).alloc _
 have e4 : Ext w3 w4 := by rw [h4]; exact (Ext.refl _).alloc _
 have e5 : Ext w4 w5 := by rw [h5]; exact (Ext.refl _).alloc _
 have e6 : Ext w5 w6 := by rw [h6]; exact (Ext.refl _).alloc _
 have e7 : Ext w6 w7 := by rw [h7]; exact (Ext.refl _).alloc _
 have e8 : Ext w7 w8 := by rw [h8]; exact (Ext.refl _).alloc _
 have e0 : Ext w w0 := by rw [h0]; exact (Ext.refl _).alloc _
 have n7 : NodesR 1 w7 (.slice (some ⟨w.heap.size + 1 + 1 + 1 + 1 + 1 + 1 + 1, 0, none⟩) 7 7) reachB := by
  rw [← s6]
  refine NodesR.lit _ 112 [ndC 10 0 0 0 (.slice none 0 0) (.slice none 0 0), ndC 11 0 0 0 (.slice none 0 0) (.slice none 0 0), ndC 6 23 0 0 (.slice (some ⟨w.heap.size + 1 + 1, 0, none⟩) 2 2) (.slice none 0 0),
   ndC 2 3 0 0 (.slice (some ⟨w.heap.size + 1 + 1 + 1, 0, none⟩) 1 1) (.slice none 0 0), ndC 2 5 1 0 (.slice (some ⟨w.heap.size + 1 + 1 + 1 + 1, 0, none⟩) 1 1) (.slice none 0 0),
   ndC 8 0 0 0 (.slice (some ⟨w.heap.size + 1 + 1 + 1 + 1 + 1, 0, none⟩) 2 2) (.slice none 0 0), ndC 7 0 0 0 (.slice (some ⟨w.heap.size + 1 + 1 + 1 + 1 + 1 + 1, 0, none⟩) 1 1) (.slice none 0 0)] reachB h7 rfl (by unfold maxLen; omega) rfl rfl ?_
  have f2 := (((r2.ext e3).ext e4).ext e5).ext e6 |>.ext e7
  have f3 := ((r3.ext e4).ext e5).ext e6 |>.ext e7
  have f4 := (r4.ext e5).ext e6 |>.ext e7
  have f5 := (r5.ext e6).ext e7
  have f6 := r6.ext e7
  exact ⟨⟨rfl, NdQ.mk (OE.nilS 3 0 _).re (NodesR.nil _ _)⟩, ⟨rfl, NdQ.mk (OE.nilS 3 0 _).re (NodesR.nil _ _)⟩, ⟨rfl, NdQ.mk f2 (NodesR.nil _ _)⟩, ⟨rfl, NdQ.mk f3 (NodesR.nil _ _)⟩, ⟨rfl, NdQ.mk f4 (NodesR.nil _ _)⟩, ⟨rfl, NdQ.mk f5 (NodesR.nil _ _)⟩, ⟨rfl, NdQ.mk f6 (NodesR.nil _ _)⟩, trivial⟩
 refine ⟨(((((((b0.ext e1).ext e2).ext e3).ext e4).ext e5).ext e6).ext e7).ext e8, ?_, ((((((((e0.trans e1).trans e2).trans e3).trans e4).trans e5).trans e6).trans e7).trans e8)⟩
 rw [← s7]
 refine NodesR.lit _ 112 [ndC 1 0 0 0 (.slice none 0 0) (.slice none 0 0), ndC 1 0 0 1 (.slice none 0 0) (.slice none 0 0), ndC 9 0 0 n (.slice (some ⟨w.heap.size + 1, 0, none⟩) 1 1) (.slice (some ⟨w.heap.size + 1 + 1 + 1 + 1 + 1 + 1 + 1, 0, none⟩) 7 7)] (reachN n) h8 rfl (by unfold maxLen; omega) rfl rfl ?_
 have f1 := ((((((r1.ext e2).ext e3).ext e4).ext e5).ext e6).ext e7).ext e8
 exact ⟨⟨rfl, NdQ.mk (OE.nilS 3 0 _).re (NodesR.nil _ _)⟩, ⟨rfl, NdQ.mk (OE.nilS 3 0 _).re (NodesR.nil _ _)⟩, ⟨rfl, NdQ.mk f1 (n7.ext e8)⟩, trivial⟩
attribute [local irreducible] RE OE NodesR
set_option maxHeartbeats 4000000 in
theorem reach_anyN (n : Int) (w : World) : Calls Tryz.prog 19 #[.int .i64 n] w fun e w' => ∃ u, e = .returned (gAg u 2) ∧ NodesR 2 w' u (reachN n) ∧ Ext w w' := by
 have HM := hid (reach_mem (n := n) (w := w) rfl rfl rfl rfl rfl rfl rfl rfl rfl)
 go_enter Tryz.func19, Tryz.ntmps19
 go_upto_region 1 with fail
 go_wp2
 obtain ⟨hb, hn, hx⟩ := HM.out
 have y0 := hb.cell 0
 have y1 := hb.cell 1
 exact bodyPost_ret (v := gAg _ 2) (by simp [results, Tryz.results19, go_sem, y0, y1]) rfl ⟨_, rfl, hn, hx⟩
end Go.Proofs.YtpmpjjhchkoboaaGreatDoor
namespace Go.Proofs.YtpmpjjhchkoboaaGreatDoor
open Go.RowKit Go.Ox Go.Ox.Gr Go.Ox.Sc
abbrev wiV (p : Nat) : Value := .func (.func 90) #[] #[.pointer (some ⟨p, 0, none⟩)]
theorem swithin_any (m : Int) (w : World) :
 Calls Tryz.prog 44 #[.int .i64 m] w fun e w' => ∃ p, e = .returned (wiV p) ∧ Blk w' p 3 #[.int .i64 m] ∧ Ext w w' := by
 have HX := hid ((Ext.refl w).alloc (.cells #[.int .i64 m] 3))
 have HB := hid (Blk.new w 3 #[.int .i64 m])
 go_enter Tryz.func44, Tryz.ntmps44
 go_wp2
 go_ret
 exact ⟨_, rfl, HB.out, HX.out⟩
theorem within1_any (x m : Int) (p : Nat) (w : World) (hc : w.cell? ⟨p, 0, none⟩ = some (.int .i64 m)) :
 Calls Tryz.prog 90 #[.int .i64 x, .pointer (some ⟨p, 0, none⟩)] w fun e w' => e = .returned (.bool (inR x m)) ∧ Ext w w' := by
 unfold inR
 by_cases h : 0 ≤ x
 · rw [decide_eq_true h, Bool.true_and]
   go_enter Tryz.func90, Tryz.ntmps90
   go_wp2
   go_ret
   exact ⟨rfl, Ext.refl _⟩
 · rw [decide_eq_false h, Bool.false_and]
   go_enter Tryz.func90, Tryz.ntmps90
   go_wp2
   go_ret
   exact ⟨rfl, Ext.refl _⟩
theorem none1_any (x m : Int) (p q : Nat) (w : World) (hc : w.cell? ⟨p, 0, none⟩ = some (.int .i64 m)) (hf : w.cell? ⟨q, 0, none⟩ = some (wiV p)) :
 Calls Tryz.prog 89 #[.int .i64 x, .pointer (some ⟨q, 0, none⟩)] w fun e w' => e = .returned (.bool (!inR x m)) ∧ Ext w w' := by
 have HA := hid (within1_any x m p w hc)
 clear hc
 generalize inR x m = y at *
 go_enter Tryz.func89, Tryz.ntmps89
 go_wp2_with fail
 refine HA.out.mono ?_
 rintro e w1 ⟨rfl, he⟩
 go_wp2
 go_ret
 exact ⟨rfl, he⟩
theorem all_in (l : List Int) (m : Int) : (l.all fun x => inR x m) = !anyI (fun x => !inR x m) l := by
 unfold anyI
 rw [List.not_any_eq_all_not]
 simp
theorem none_any (v : Value) (l : List Int) (m : Int) (p : Nat) (w : World) (hv : RE w v l) (hl : l.length ≤ 1000000000) (hb : Blk w p 3 #[.int .i64 m]) :
 Calls Tryz.prog 43 #[v, wiV p] w fun e w' => e = .returned (.bool (l.all fun x => inR x m)) ∧ Ext w w' := by
 rw [all_in]
 obtain ⟨A, c, rfl⟩ := hv.form
 have hal := (Ext.refl w).alloc (.cells #[wiV p] 72)
 have HX := hid hal
 have HQ := hid (Blk.new w 72 #[wiV p])
 have HP := hid (hb.ext hal)
 have eg2 : ∀ args w, (callFunc 89 args).run Tryz.prog w = .ok (.enter 89 args) w := enters_of Tryz.func89 (by kernel_rfl) rfl
 have HC := hid (containsI_any (fun x => !inR x m) 89 #[.pointer (some ⟨w.heap.size, 0, none⟩)] eg2 (.slice A l.length c) l _ (hv.ext hal) hl (fun x W' he => none1_any x m p w.heap.size W' (he.cell (HP.out.cell 0)) (he.cell (HQ.out.cell 0))))
 clear hv hal
 generalize anyI (fun x => !inR x m) l = y at *
 go_enter Tryz.func43, Tryz.ntmps43
 go_wp2_with fail
 refine HC.out.mono ?_
 rintro e w1 ⟨rfl, he⟩
 go_wp2
 go_ret
 exact ⟨rfl, HX.out.trans he⟩
theorem config_any (a b c d : Int) (w : World) :
 Calls Tryz.prog 21 #[.agg #[.int .i64 a, .int .i64 b, .int .i64 c, .int .i64 d]] w fun e w' => ∃ u, e = .returned u ∧ OE 3 w.heap.size w' u [a, b, c, d] ∧ Ext w w' := by
 have hal := (Ext.refl w).alloc (.cells #[.int .i64 a, .int .i64 b, .int .i64 c, .int .i64 d] 23)
 have HB := hid (Blk.new w 23 #[.int .i64 a, .int .i64 b, .int .i64 c, .int .i64 d])
 have HX := hid (hal.alloc (.cells #[.int .i64 a, .int .i64 b, .int .i64 c, .int .i64 d] 3))
 have ho : OE 3 (w.alloc (.cells #[.int .i64 a, .int .i64 b, .int .i64 c, .int .i64 d] 23)).heap.size ((w.alloc (.cells #[.int .i64 a, .int .i64 b, .int .i64 c, .int .i64 d] 23)).alloc (.cells #[.int .i64 a, .int .i64 b, .int .i64 c, .int .i64 d] 3)) (.slice (some ⟨(w.alloc (.cells #[.int .i64 a, .int .i64 b, .int .i64 c, .int .i64 d] 23)).heap.size, 0, none⟩) 4 4) [a, b, c, d] :=
  OE.mk (World.ownsRow_lit (e := 3) (size := 1) _ #[.int .i64 a, .int .i64 b, .int .i64 c, .int .i64 d] 4 (Nat.le_refl _) (by unfold maxLen; omega) rfl)
 have hsz : (w.alloc (.cells #[.int .i64 a, .int .i64 b, .int .i64 c, .int .i64 d] 23)).heap.size = w.heap.size + 1 := by simp
 rw [hsz] at ho
 have HO := hid (ho.low (base' := w.heap.size) (by omega))
 clear ho hsz hal
 go_enter Tryz.func21, Tryz.ntmps21
 go_upto_region 1 with fail
 have y0 := HB.out.cell 0
 have y1 := HB.out.cell 1
 have y2 := HB.out.cell 2
 have y3 := HB.out.cell 3
 go_wp2
 go_ret
 exact ⟨_, rfl, HO.out, HX.out⟩
end Go.Proofs.YtpmpjjhchkoboaaGreatDoor
