/-
  A region with effects, with facts that hang on how far it has come: the region's theorem.
-/
import Derived.Test.YtngdlahgihbmhaaEff2
namespace Go.Ox
open Go.RowKit
section
variable {P : Program} {ops : Array Oper} {Q : Exit → Act → World → Prop} {R0 R : World → World → Prop} {E : Nat → World → World → Prop} {a0 : Act} {w0 : World}
theorem wp_region_effC {id : Nat} {a : Act} {w : World} {ps : List Planned} (eff anc : List Tmp) (R0 R : World → World → Prop) (E : Nat → World → World → Prop) (S : World → Prop) (hm : P.follows .mixedOrders = true)
    (hplan : planOf ops ops.toList = some ps) {n : Nat} (hn : a.tmps.size = n) (hok : planOk n ps = true) (hch : chained (masks ps []) (effIx eff ps 0) = true) (han : anchored (masks ps []) (effIx eff ps 0) (ancIx eff anc ps 0 0) = true)
    (htr : ∀ a b c, R a b → R b c → R a c) (hrf : ∀ a, R a a) (h0R : ∀ a b, R0 a b → R a b) (h0rf : ∀ a, R0 a a) (hdr : R0 w w.drew) (hS0 : ∀ w w', S w → R0 w w' → S w') (hS : S w)
    (h : wpC P Q R0 R E a w eff anc 0 S ps []) : (Code.region id ops true).wp P Q a w := by
  subst hn
  refine wp_region_any hm ?_
  obtain ⟨Is, Ss, h1, h2, h3, h4, h5, h5a, h6, T, h7, h8⟩ := wpC_parts _ _ _ _ hS0 h
  have hlen : ops.size = ps.length := by simpa using ((planOf_spec _ _ hplan).1).symm
  refine wpAny_of_effC (E := E) (R0 := R0) (eff := eff) (anc := anc) h1 hplan hok hch han htr hrf h0R h0rf h4 h2 (fun j p I hp hI he ha => by simpa using h5 j p I hp hI he ha) (fun j p I hp hI he ha => by simpa using h5a j p I hp hI he ha) (fun j p I hp hI he => by simpa using h6 j p I hp hI he) (effIx_spec eff ps) ⟨T, h7, fun w' hw' hT => by simpa using h8 w' hw' hT⟩ _ _ _ _ ⟨0, S, h3, hS0 _ _ hS hdr, fun i j _ hi => by omega, fun i j hi _ => ?_, ?_⟩ ?_
  · have hjl : j < ops.size := by
      rw [hlen]
      have : j ∈ effIx eff ps 0 := List.mem_of_getElem? hi
      have hlt : ∀ (l : List Planned) (n : Nat), ∀ x ∈ effIx eff l n, x < n + l.length := by
        intro l
        induction l with
        | nil => intro n x hx; simp [effIx] at hx
        | cons q l ih =>
          intro n x hx
          unfold effIx at hx
          split at hx
          · rcases List.mem_cons.1 hx with rfl | hx
            · simp
            · have := ih _ _ hx; simp; omega
          · have := ih _ _ hx; simp; omega
      simpa using hlt ps 0 j this
    simp [Array.getD, hjl]
  · refine ⟨by simp [hlen], h0R _ _ hdr, rfl, rfl, ?_, ?_, fun t _ => rfl⟩
    · intro j p hp hj
      have hjl : j < ops.size := by
        rw [hlen]
        rcases Nat.lt_or_ge j ps.length with h | h
        · exact h
        · rw [List.getElem?_eq_none h] at hp; cases hp
      simp [Array.getD, hjl] at hj
    · intro j p I hp hI hj
      have hjl : j < ops.size := by
        rw [hlen]
        rcases Nat.lt_or_ge j ps.length with h | h
        · exact h
        · rw [List.getElem?_eq_none h] at hp; cases hp
      simp [Array.getD, hjl] at hj
  · simp [unlisted, List.countP_replicate, hlen]

variable {S : World → Prop} {eff anc : List Tmp} {rest : List Planned} {fs : List (Tmp × PredC)} {d e t : Tmp} {o : Oper} {g : GuardS} {b : Bool} {k : Nat}
/-- 'wpC', shut; a change asks nothing but R -/
def wpZ (P : Program) (Q : Exit → Act → World → Prop) (R0 R : World → World → Prop) (a0 : Act) (w0 : World) (eff anc : List Tmp) (k : Nat) (S : World → Prop) (l : List Planned) (fs : List (Tmp × PredC)) : Prop := wpC P Q R0 R (fun _ => R) a0 w0 eff anc k S l fs
/-- a fact that does not hang on the world -/
theorem keptC_eq {X : Value} : KeptC R0 E (fun _ v _ => v = X) := ⟨fun _ _ _ _ h _ => h, fun _ _ _ _ h _ => h⟩
/-- a fact until the change k -/
theorem keptC_till {I : Pred} {n : Nat} (hm : ∀ v w w', I v w → R0 w w' → I v w') (hn : ∀ c, c < n → ∀ v w w', I v w → E c w w' → I v w') : KeptC R0 E (fun c v w => c ≤ n → I v w) :=
  ⟨fun c v w w' h hR hc => hm v w w' (h hc) hR, fun c v w w' h hE hc => hn c (by omega) v w w' (h (by omega)) hE⟩
theorem wpZ_done (h : ∀ w, R w0 w → S w → FinV (fun a => Q .normal a w) w (atC k fs).reverse a0) : wpZ P Q R0 R a0 w0 eff anc k S [] fs := h
theorem wpZ_val (he : eff.contains d = false) (ha : anc.contains d = false) (hg : ∀ c, Runs (atC c fs) g) (hrf : ∀ w, R0 w w) (hd : o.dst = some d)
    (hX : ∃ X : Value, (∀ (c : Nat) (a : Act) (w : World), R w0 w → LooksF (atC c fs) a0 a w (opTmps o) ((execOp a.eval o).run P w = .ok (.value X) w)) ∧
      wpZ P Q R0 R a0 w0 eff anc k S rest ((d, fun _ v _ => v = X) :: fs)) : wpZ P Q R0 R a0 w0 eff anc k S (⟨d, o, g⟩ :: rest) fs := by
  obtain ⟨X, h, hr⟩ := hX
  unfold wpZ wpC
  rw [if_neg (by rw [he]; simp), if_neg (by rw [ha]; simp)]
  refine ⟨_, ⟨keptC_eq, fun c a w hR => looks_run (hg c) (looksF_mono (fun k => ?_) _ (h c a w hR))⟩, hr⟩
  simp only [Oper.wp, k, Oper.upon, hd]
  exact ⟨X, rfl, hrf w, rfl⟩
theorem wpZ_move0 (he : eff.contains d = false) (ha : anc.contains d = false) (hg : ∀ c, Runs (atC c fs) g) (hrf : ∀ w, R0 w w) (ho : o.op = .move (.tmp t)) (hd : o.dst = some d) (hf : ∀ c, ((atC c fs).find? (fun f => f.1 == t)) = none)
    (hX : ∃ X : Value, a0.tmps.getD t undef = X ∧ wpZ P Q R0 R a0 w0 eff anc k S rest ((d, fun _ v _ => v = X) :: fs)) : wpZ P Q R0 R a0 w0 eff anc k S (⟨d, o, g⟩ :: rest) fs := by
  obtain ⟨X, hX, hr⟩ := hX
  unfold wpZ wpC
  rw [if_neg (by rw [he]; simp), if_neg (by rw [ha]; simp)]
  refine ⟨_, ⟨keptC_eq, fun c a w _ => looks_run (hg c) ?_⟩, hr⟩
  simp only [opTmps, ho, Op.operands]
  show SlotF (atC c fs) a0 a w t → _
  intro hs
  unfold SlotF at hs
  rw [hf c] at hs
  have hs : a.tmps.getD t undef = a0.tmps.getD t undef := hs
  show Oper.wp P o a w _ Q
  simp only [Oper.wp, execOp, ho]
  exact ⟨a.tmps.getD t undef, by rw [hd]; rfl, hrf w, hs.trans hX⟩
/-- a step that makes memory, at most, and that stands between two changes -/
theorem wpZ_callA (I : PredC) (he : eff.contains d = false) (ha : anc.contains d = true) (hg : Runs (atC k fs) g) (hd : o.dst = some d) (hm : KeptC R0 (fun _ => R) I)
    (h : ∀ (a : Act) (w : World), R w0 w → S w → LooksF (atC k fs) a0 a w (opTmps o) (∀ K : Act → World → Prop, (∀ v w', R0 w w' → I k v w' → K (a.put o.dst v) w') → o.wp P a w K Q))
    (hr : wpZ P Q R0 R a0 w0 eff anc k S rest ((d, I) :: fs)) : wpZ P Q R0 R a0 w0 eff anc k S (⟨d, o, g⟩ :: rest) fs := by
  unfold wpZ wpC
  rw [if_neg (by rw [he]; simp), if_pos ha]
  exact ⟨_, ⟨hm, fun a w hR hS => looks_run hg (looksF_mono (fun k => k _ fun v w' hR hI => ⟨v, by rw [hd], hR, hI⟩) _ (h a w hR hS))⟩, hr⟩
/-- one that changes the world -/
theorem wpZ_eff (I : PredC) (S' : World → Prop) (he : eff.contains d = true) (hg : Runs (atC k fs) g) (hd : o.dst = some d) (hm : KeptC R0 (fun _ => R) I) (hS : ∀ w w', S' w → R0 w w' → S' w')
    (h : ∀ (a : Act) (w : World), R w0 w → S w → LooksF (atC k fs) a0 a w (opTmps o) (∀ K : Act → World → Prop, (∀ v w', R w w' → S' w' → I (k + 1) v w' → K (a.put o.dst v) w') → o.wp P a w K Q))
    (hr : wpZ P Q R0 R a0 w0 eff anc (k + 1) S' rest ((d, I) :: fs)) : wpZ P Q R0 R a0 w0 eff anc k S (⟨d, o, g⟩ :: rest) fs := by
  unfold wpZ wpC
  rw [if_pos he]
  exact ⟨_, S', hS, ⟨hm, fun a w hR hs => looks_run hg (looksF_mono (fun k => k _ fun v w' hR hS' hI => ⟨v, by rw [hd], hR, hR, hS', hI⟩) _ (h a w hR hs))⟩, hr⟩
theorem wp_regionZ {id : Nat} {a : Act} {w : World} {ps : List Planned} (eff anc : List Tmp) (R0 R : World → World → Prop) (S : World → Prop) (hm : P.follows .mixedOrders = true)
    (hplan : planOf ops ops.toList = some ps) {n : Nat} (hn : a.tmps.size = n) (hok : planOk n ps = true) (hch : chained (masks ps []) (effIx eff ps 0) = true) (han : anchored (masks ps []) (effIx eff ps 0) (ancIx eff anc ps 0 0) = true)
    (htr : ∀ a b c, R a b → R b c → R a c) (hrf : ∀ a, R a a) (h0R : ∀ a b, R0 a b → R a b) (h0rf : ∀ a, R0 a a) (hdr : R0 w w.drew) (hS0 : ∀ w w', S w → R0 w w' → S w') (hS : S w)
    (h : wpZ P Q R0 R a w eff anc 0 S ps []) : (Code.region id ops true).wp P Q a w :=
  wp_region_effC eff anc R0 R _ S hm hplan hn hok hch han htr hrf h0R h0rf hdr hS0 hS h
end
attribute [irreducible] wpZ
end Go.Ox
