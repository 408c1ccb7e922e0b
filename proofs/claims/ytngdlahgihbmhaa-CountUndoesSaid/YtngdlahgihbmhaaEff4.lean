/-
  A region with effects and facts that hang on how far it has come, whose last operations stand in one forced order: its head in any order, its tail as a list.
-/
import Derived.Test.YtngdlahgihbmhaaEff3
import Derived.Test.YtngdlahgihbmhaaTail
namespace Go.Ox
open Go.RowKit
section
variable {P : Program} {ops : Array Oper} {Q : Exit → Act → World → Prop} {R0 R : World → World → Prop} {a0 : Act} {w0 : World}
unseal wpZ in
theorem wpZ_open {eff anc : List Tmp} {k : Nat} {S : World → Prop} {l : List Planned} {fs : List (Tmp × PredC)} (h : wpZ P Q R0 R a0 w0 eff anc k S l fs) : wpC P Q R0 R (fun _ => R) a0 w0 eff anc k S l fs := h
theorem wpAny_region_effC {a : Act} {w : World} {ps : List Planned} (eff anc : List Tmp) (R0 R : World → World → Prop) (E : Nat → World → World → Prop) (S : World → Prop)
    (hplan : planOf ops ops.toList = some ps) {n : Nat} (hn : a.tmps.size = n) (hok : planOk n ps = true) (hch : chained (masks ps []) (effIx eff ps 0) = true) (han : anchored (masks ps []) (effIx eff ps 0) (ancIx eff anc ps 0 0) = true)
    (htr : ∀ a b c, R a b → R b c → R a c) (hrf : ∀ a, R a a) (h0R : ∀ a b, R0 a b → R a b) (h0rf : ∀ a, R0 a a) (hdr : R0 w w.drew) (hS0 : ∀ w w', S w → R0 w w' → S w') (hS : S w)
    (h : wpC P Q R0 R E a w eff anc 0 S ps []) : wpAny P .any ops Q ops.size (Array.replicate ops.size false) a w.drew := by
  subst hn
  obtain ⟨Is, Ss, h1, h2, h3, h4, h5, h5a, h6, T, h7, h8⟩ := wpC_parts _ _ _ _ hS0 h
  have hlen : ops.size = ps.length := by simpa using ((planOf_spec _ _ hplan).1).symm
  refine wpAny_of_effC (E := E) (R0 := R0) (eff := eff) (anc := anc) h1 hplan hok hch han htr hrf h0R h0rf h4 h2 (fun j p I hp hI he ha => by simpa using h5 j p I hp hI he ha) (fun j p I hp hI he ha => by simpa using h5a j p I hp hI he ha) (fun j p I hp hI he => by simpa using h6 j p I hp hI he) (effIx_spec eff ps) ⟨T, h7, fun w' hw' hT => by simpa using h8 w' hw' hT⟩ _ _ _ _ ⟨0, S, h3, hS0 _ _ hS hdr, fun i j _ hi => by omega, fun i j hi _ => ?_, ?_⟩ ?_
  · have hjl : j < ops.size := by
      rw [hlen]
      have : j ∈ effIx eff ps 0 := List.mem_of_getElem? hi
      have hlt : ∀ (l : List Planned) (n : Nat), ∀ x ∈ effIx eff l n, x < n + l.length := by
        intro l
        induction l with
        | nil => intro n x hx; simp [effIx] at hx
        | cons q l ih =>
          intro n x hx
          unfold effIx at hx
          split at hx
          · rcases List.mem_cons.1 hx with rfl | hx
            · simp
            · have := ih _ _ hx; simp; omega
          · have := ih _ _ hx; simp; omega
      simpa using hlt ps 0 j this
    simp [Array.getD, hjl]
  · refine ⟨by simp [hlen], h0R _ _ hdr, rfl, rfl, ?_, ?_, fun t _ => rfl⟩
    · intro j p hp hj
      have hjl : j < ops.size := by
        rw [hlen]
        rcases Nat.lt_or_ge j ps.length with h | h
        · exact h
        · rw [List.getElem?_eq_none h] at hp; cases hp
      simp [Array.getD, hjl] at hj
    · intro j p I hp hI hj
      have hjl : j < ops.size := by
        rw [hlen]
        rcases Nat.lt_or_ge j ps.length with h | h
        · exact h
        · rw [List.getElem?_eq_none h] at hp; cases hp
      simp [Array.getD, hjl] at hj
  · simp [unlisted, List.countP_replicate, hlen]
theorem wp_region_tailZ {id : Nat} {a : Act} {w : World} {ps : List Planned} (k : Nat) (eff anc : List Tmp) (R0 R : World → World → Prop) (S : World → Prop) (hm : P.follows .mixedOrders = true)
    (hn0 : decide (k < ops.size) = true) (hs : Region.sinkB .any ops k = true) (hc : Region.chainB .any ops k = true) (hg : guardsIn ops k = true) (hb : edgesBack ops k = true)
    (hq : Region.seqB .any ops (ops.size - k) k (Array.replicate k true ++ Array.replicate (ops.size - k) false) = true)
    (hplan : planOf (ops.extract 0 k) (ops.extract 0 k).toList = some ps) {n : Nat} (hn : a.tmps.size = n) (hok : planOk n ps = true) (hch : chained (masks ps []) (effIx eff ps 0) = true) (han : anchored (masks ps []) (effIx eff ps 0) (ancIx eff anc ps 0 0) = true)
    (htr : ∀ a b c, R a b → R b c → R a c) (hrf : ∀ a, R a a) (h0R : ∀ a b, R0 a b → R a b) (h0rf : ∀ a, R0 a a) (hdr : R0 w w.drew) (hS0 : ∀ w w', S w → R0 w w' → S w') (hS : S w)
    (h : wpZ P (thenTail P ops k Q) R0 R a w eff anc 0 S ps []) : (Code.region id ops true).wp P Q a w := by
  refine wp_region_any hm ?_
  have hk : k < ops.size := of_decide_eq_true hn0
  have h1 := wpAny_region_effC eff anc R0 R _ S hplan hn hok hch han htr hrf h0R h0rf hdr hS0 hS (wpZ_open h)
  rw [head_size hk] at h1
  have inv0 : HeadInv .any ops k (Array.replicate ops.size false) :=
    ⟨by simp, fun j oj _ hl => (by rw [getD_replicate_false] at hl; cases hl), fun t _ ht => getD_in (by simpa using ht) (getD_replicate_false _ _)⟩
  have h2 := wpAny_tail hk hs hc hg hb hq k (Array.replicate k false) (Array.replicate ops.size false) a w.drew inv0 (by simp) (fun j hj => by
    rw [getD_in (by simp; omega) (getD_replicate_false _ _), getD_in (by simpa using hj) (getD_replicate_false _ _)]) (by simp [unlisted, List.countP_replicate]) h1
  rw [show k + (ops.size - k) = ops.size by omega] at h2
  exact h2
variable {E : Nat → World → World → Prop}
/-- a fact from the change n on, until the next one -/
theorem keptC_at {I : Pred} {n : Nat} (hm : ∀ v w w', I v w → R0 w w' → I v w') : KeptC R0 E (fun c v w => n ≤ c ∧ (c ≤ n → I v w)) :=
  ⟨fun c v w w' h hR => ⟨h.1, fun hc => hm v w w' (h.2 hc) hR⟩, fun c v w w' h _ => ⟨by have := h.1; omega, fun hc => by have := h.1; omega⟩⟩
/-- a fact until the first change -/
theorem keptC_0 {I : Pred} (hm : ∀ v w w', I v w → R0 w w' → I v w') : KeptC R0 E (fun c v w => c ≤ 0 → I v w) := keptC_till hm fun c hc => by omega
end

end Go.Ox
