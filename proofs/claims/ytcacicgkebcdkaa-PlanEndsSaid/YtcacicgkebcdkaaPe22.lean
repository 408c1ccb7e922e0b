/-
  PlCompact, packed: what the claim needs of them.
-/
import Derived.Test.YtcacicgkebcdkaaPe17
import Derived.Test.YtcacicgkebcdkaaPe21
set_option linter.unusedSimpArgs false
set_option linter.unusedVariables false
namespace Go.Ox.Pl
open Go.Proofs Go.Sort Go.RowKit
theorem toArr_get (l : List Ar) (t : Nat) : l.toArray[t]! = l[t]! := by
  by_cases h : t < l.length
  · rw [getElem!_pos _ t (by simpa using h), getElem!_pos l t h]; simp
  · rw [getElem!_neg _ t (by simpa using h), getElem!_neg l t h]
section
variable {α : Type} [Inhabited α]
theorem set_get (d : Array α) {i : Nat} (hi : i < d.size) (x : α) (k : Nat) : (d.setIfInBounds i x)[k]! = if k = i then x else d[k]! := by
  simp only [getElem!_def, Array.getElem?_setIfInBounds]
  by_cases h : k = i
  · subst h; simp [hi]
  · simp [Ne.symm h, h]
theorem flat_set (enc : α → List Value) (k : Nat) (hk : ∀ x, (enc x).length = k) (d : Array α) (i : Nat) (x : α) (hi : i < d.size) : setMany (flatK enc k d) (i * k) (enc x) = flatK enc k (d.setIfInBounds i x) := by
  refine ext_get! (by simp) fun t ht => ?_
  have ht' : t < d.size * k := by simpa using ht
  have k0 : 0 < k := by
    rcases Nat.eq_zero_or_pos k with h | h
    · subst h; simp at ht'
    · exact h
  rw [get_setMany _ _ _ t (by simpa using ht'), get_flatK _ _ _ t ht', get_flatK _ _ _ t (by simpa using ht'), hk, set_get d hi]
  by_cases h : t / k = i
  · rw [if_pos ((blk_iff k i t k0).2 h), if_pos h]
    subst h
    rw [Nat.mod_eq_sub_div_mul]
  · rw [if_neg (fun q => h ((blk_iff k i t k0).1 q)), if_neg h]
theorem swk_put {enc : α → List Value} {k : Nat} (hk : ∀ x, (enc x).length = k) {w0 W : World} {blk off : Nat} {D : Array α} (S : SWK enc k w0 blk off D W) (hblk : blk < w0.heap.size) (i : Nat) (hi : i < D.size) (x : α) : SWK enc k w0 blk off (D.setIfInBounds i x) (W.setCells blk (off + i * k) (enc x)) := by
  obtain ⟨n, os, rfl⟩ := S
  refine ⟨n, os, ?_⟩
  unfold sortWorldK
  rw [setCells_grow os blk _ _ _ (by rw [size_putRowK]; exact hblk)]
  congr 1
  unfold putRowK
  rw [setCells_putRow _ _ _ _ _ _ (by rw [size_flatK, hk]; exact rowK_bnd D k i hi), flat_set enc k hk D i x hi]
end
end Go.Ox.Pl
namespace Go.Proofs.Ytcacicgkebcdkaa
open Go.RowKit Go.Ox Go.Shelf Go.Sort Go.Ox.Gr
theorem egQ : ∀ args w, (callFunc 36 args).run Try.prog w = .ok (.enter 36 args) w := enters_of Try.func36 (by kernel_rfl) rfl
section
variable {w0 : World} {blk off : Nat} {d0 : Array Pl.Ar}
theorem eq_facts (R : RowK encA.enc 6 w0 blk off d0) {D : Array Pl.Ar} {W : World} (S : SWK encA.enc 6 w0 blk off D W) (hs : D.size = d0.size) (x y : Nat) (hx : x < D.size) (hy : y < D.size) (px py : Nat) (hpx : px = off + x * 6) (hpy : py = off + y * 6) :
    ∃ (kk : Nat) (cA cB : List Value), kk = 6 ∧ cA = encA.enc D[x]! ∧
      (∀ n os, Sem.run Try.prog (loadCellsFrom ⟨blk, px, none⟩ 0 kk #[]) (grow (W.drewN n) os) = .ok cA.toArray (grow (W.drewN n) os)) ∧
      (∀ n os, Sem.run Try.prog (loadCellsFrom ⟨blk, py, none⟩ 0 kk #[]) (grow (W.drewN n) os) = .ok cB.toArray (grow (W.drewN n) os)) ∧
      (∀ n os, Calls Try.prog 36 (#[.agg cA.toArray, .agg cB.toArray] ++ #[]) (grow (W.drewN n) os) fun e w' => e = .returned (.bool (decide (D[x]!.1 = D[y]!.1))) ∧ ∃ q os', w' = grow ((grow (W.drewN n) os).drewN q) os') := by
  subst hpx hpy
  exact ⟨6, encA.enc D[x]!, encA.enc D[y]!, rfl, rfl, fun n os => S.ld R hs _ x hx n os, fun n os => S.ld R hs _ y hy n os, fun n os => eqArc_grown D[x]! D[y]! _⟩
theorem put_facts (R : RowK encA.enc 6 w0 blk off d0) {D : Array Pl.Ar} {W : World} (S : SWK encA.enc 6 w0 blk off D W) (hs : D.size = d0.size) (x i : Nat) (hx : x < D.size) (hi : i < D.size) (px pi : Nat) (hpx : px = off + x * 6) (hpi : pi = off + i * 6) :
    ∃ (kk : Nat) (cA : List Value), kk = 6 ∧ cA.length = kk ∧
      Sem.run Try.prog (loadCellsFrom ⟨blk, px, none⟩ 0 kk #[]) W = .ok cA.toArray W ∧
      Sem.run Try.prog (storeCells ⟨blk, pi, none⟩ cA 0) W = .ok () (W.setCells blk pi cA) ∧ SWK encA.enc 6 w0 blk off (D.setIfInBounds i D[x]!) (W.setCells blk pi cA) := by
  subst hpx hpi
  exact ⟨6, encA.enc D[x]!, rfl, rfl, S.load R hs _ x hx, stores_of_holds _ (S.holds R.hblk R.hH hs) (i * 6) _ (by rw [encA.len, size_flatK]; show i * 6 + 6 ≤ D.size * 6; omega) (encA.one _), Pl.swk_put encA.len S R.hblk i hi _⟩
end
structure CmpI (w0 : World) (g : Nat) (l : List Pl.Ar) (i j : Nat) (D : Array Pl.Ar) (W : World) : Prop where
  s : SWK encA.enc 6 w0 g 0 D W
  z : D.size = l.length
  ij : i < j
  jn : j ≤ l.length
  hd : D.toList.take i = Pl.dd (l.take j)
  il : (Pl.dd (l.take j)).length = i
  tl : ∀ t, j - 1 ≤ t → D[t]! = l[t]!
set_option maxHeartbeats 8000000 in
set_option maxRecDepth 1000000 in
theorem compact_own (g cap base : Nat) (l : List Pl.Ar) (w : World) (hown : OE 39 base w (.slice (some ⟨g, 0, none⟩) l.length cap) l) (hl : l.length ≤ 1000000) :
    Calls Try.prog 35 #[.slice (some ⟨g, 0, none⟩) l.length cap, .func (.func 36) #[] #[]] w fun e w' => ∃ v', e = .returned v' ∧ OE 39 base w' v' (Pl.dd l) ∧ w.grownBy w' (some g) := by
  have how : w.ownsRow base 39 6 (.slice (some ⟨g, 0, none⟩) l.length cap) l.length (l.flatMap encA.enc) := hown.own
  have hH := holdsK_of_own (enc := encA.enc) encA.len encA.pos how
  have HR := Lib.hid (rowA hH (how.lt g rfl).2)
  have HS := Lib.hid (SWK.start hH)
  have HOWN := Lib.hid hown
  have HO := Lib.hid how
  obtain ⟨n, hn⟩ : ∃ n, n = l.length := ⟨_, rfl⟩
  have hcap : n ≤ cap := by
    rcases hown.open_ with ⟨h, _⟩ | ⟨b, cap', cur, he, _, _, hnc, _⟩
    · cases h
    · injection he with e1 e2 e3; omega
  have hn9 : (n : Int) ≤ 1000000 := by omega
  have HN := Lib.hid (show n = l.length ∧ n ≤ 1000000 ∧ n ≤ cap from ⟨hn, by omega, hcap⟩)
  rw [← hn]
  have HA0 := Lib.hid (show l.toArray.size = n by simp [hn])
  have HLA := Lib.hid (show ∀ t, l.toArray[t]! = l[t]! from fun t => Pl.toArr_get l t)
  clear how hH hown hl hn hcap
  go_enter Try.func35, Try.ntmps35
  by_cases h2 : n < 2
  · have g1 : (n : Int) < 2 := by omega
    have HD := Lib.hid (Pl.dd_short (l := l) (by have := HN.out; omega))
    clear h2
    go_wp2
    go_ret
    exact ⟨_, rfl, by rw [HD.out, HN.out.1]; exact HOWN.out, World.grownBy.refl _ _⟩
  have g1 : ¬ (n : Int) < 2 := by omega
  have HN2 := Lib.hid h2
  clear h2
  go_wp2
  clear g1
  go_loopg [5] n (fun gg kv wr => ∃ k : Nat, kv = .int .i64 (k : Int) ∧ 0 < k ∧ k ≤ n ∧ n - k ≤ gg ∧ Pl.dd (l.take k) = l.take k ∧ SWK encA.enc 6 w g 0 l.toArray wr)
  case atStart => exact ⟨1, rfl, by omega, by have := HN2.out; omega, by omega, Pl.dd_one (by have := HN2.out; have := HN.out; omega), HS.out⟩
  case round =>
    obtain ⟨k, rfl, hk0, hkn, hg, hdd, hx⟩ := hrel
    have HK := Lib.hid (show 0 < k ∧ k ≤ n ∧ n - k ≤ gk from ⟨hk0, hkn, hg⟩)
    have HDD := Lib.hid hdd
    have HX := Lib.hid hx
    clear hk0 hkn hdd hx hg
    by_cases hlt : k < n
    · have g1 : (k : Int) < (n : Int) := by omega
      have HLT := Lib.hid hlt
      have hkl : k < l.length := by have := HN.out; omega
      have hkp : k - 1 < l.length := by have := HN.out; omega
      have HSN := Lib.hid (Pl.dd_take (l := l) (j := k) HK.out.1 hkl)
      have HKT := Lib.hid (List.take_succ_eq_append_getElem (l := l) (i := k) (by have := HN.out; omega))
      obtain ⟨kk, hkk⟩ : ∃ kk, k = kk + 1 := ⟨k - 1, by have := HK.out; omega⟩
      have q1 : ((k : Int) - 1) = (kk : Int) := by omega
      have q2 : IntKind.i64.wrap (kk : Int) = (kk : Int) := IntWalk.i64_in _ (by omega)
      have z2 : (kk : Int) < (n : Int) := by omega
      have hi9 : (k : Int) + 1 ≤ 1000000000 := by omega
      obtain ⟨k6, cA, cB, hk6, -, l1, l2, hcg⟩ := eq_facts HR.out HX.out rfl k kk (by rw [HA0.out]; omega) (by rw [HA0.out]; omega) (k * 6) (kk * 6) (by omega) (by omega)
      obtain ⟨r, hr⟩ : ∃ r, r = decide (l.toArray[k]!.1 = l.toArray[kk]!.1) := ⟨_, rfl⟩
      rw [← hr] at hcg
      have HRR := Lib.hid (show r = true ↔ (l[k]'hkl).1 = (l[k - 1]'hkp).1 from by
        rw [hr, decide_eq_true_eq, HLA.out, HLA.out, getElem!_pos l k (by have := HN.out; omega), getElem!_pos l kk (by have := HN.out; omega)]
        have : k - 1 = kk := by omega
        simp only [this])
      have mixed := mixedA
      have eg := egQ
      clear hr hlt hkk
      go_upto_region 6 with fail
      obtain ⟨T, hT⟩ : ∃ T, T = 39 := ⟨_, rfl⟩
      rw [← hT]
      have aT : ∀ w, (isAgg T).run Try.prog w = .ok true w := by rw [hT]; exact Try.isAgg39
      have zT : ∀ w, (Go.sizeOf T).run Try.prog w = .ok k6 w := by rw [hT, hk6]; exact Try.sizeOf39
      clear hT hk6
      cases r with
      | false =>
        go_wp2_with fail
        go_quiet_grown (first | (go_at_fn 36; refine Calls.grown_of (hcg _ _)))
        have HX2 := Lib.hid (HX.out.grown nq osq)
        clear q1 q2 l1 l2 hcg
        generalize grow (wr.drewN nq) osq = w9 at *
        go_wp2
        go_roundg (n - (k + 1))
        case measure => have h1 := HK.out; have h2 := HLT.out; omega
        case rel => exact ⟨k + 1, by first | rfl | go_num, by omega, HLT.out, Nat.le_refl _, by rw [HSN.out, HKT.out, HDD.out, if_neg (fun h => by have := HRR.out.2 h; cases this)], HX2.out⟩
      | true =>
        go_wp2_with fail
        go_quiet_grown (first | (go_at_fn 36; refine Calls.grown_of (hcg _ _)))
        have HX2 := Lib.hid (HX.out.grown nq osq)
        clear q1 q2 l1 l2 hcg
        generalize grow (wr.drewN nq) osq = w9 at *
        have HI0 := Lib.hid (show CmpI w g l k (k + 1) l.toArray w9 from by
          have h1 := HLT.out
          have h2 := HN.out
          have h3 : Pl.dd (l.take (k + 1)) = l.take k := by rw [HSN.out, HDD.out, if_pos (HRR.out.1 (by first | rfl | trivial)), List.append_nil]
          exact ⟨HX2.out, by simp, by omega, by omega, by rw [h3], by rw [h3, List.length_take]; omega, fun t _ => HLA.out t⟩)
        have hlo := fun w => run_lo_at elemA (b := g) (n := n) (c := cap) (k := k) HLT.out HN.out.2.2 w
        obtain ⟨m, hm⟩ : ∃ m, m = n - k := ⟨_, rfl⟩
        rw [← hm] at hlo
        have HM := Lib.hid hm
        clear hm g1
        go_wp2
        clear hlo
        go_loopg [5, 7] m (fun gg iv jv wr => ∃ (i j2 : Nat) (D : Array Pl.Ar), iv = .int .i64 (i : Int) ∧ jv = .int .i64 (j2 : Int) ∧ 0 < j2 ∧ j2 ≤ m ∧ m - j2 ≤ gg ∧ CmpI w g l i (k + j2) D wr)
        case atStart => exact ⟨k, 1, l.toArray, rfl, rfl, by omega, by have h1 := HLT.out; have h2 := HM.out; omega, by omega, HI0.out⟩
        case round =>
          obtain ⟨i, j2, D, rfl, rfl, hj0, hjm, hg, hI⟩ := hrel
          have HJ := Lib.hid (show 0 < j2 ∧ j2 ≤ m ∧ m - j2 ≤ gk from ⟨hj0, hjm, hg⟩)
          have HI := Lib.hid hI
          clear hj0 hjm hg hI HI0
          have hk9 := HLT.out
          have hm9 := HM.out
          have hn99 := HN.out
          by_cases hlt : j2 < m
          · have g1 : (j2 : Int) < (m : Int) := by omega
            have HL2 := Lib.hid hlt
            have hL9 : k + j2 < l.length := by omega
            have hL8 : k + j2 - 1 < l.length := by omega
            have hK9 : 0 < k + j2 := by have := HK.out; omega
            have HSN := Lib.hid (Pl.dd_take (l := l) (j := k + j2) hK9 hL9)
            have HEX := Lib.hid (show D[k + j2]! = l[k + j2]'hL9 from by rw [HI.out.tl _ (by omega), getElem!_pos l (k + j2) hL9])
            obtain ⟨jj, hjj⟩ : ∃ jj, j2 = jj + 1 := ⟨j2 - 1, by have := HJ.out; omega⟩
            have q1 : ((j2 : Int) - 1) = (jj : Int) := by omega
            have q2 : IntKind.i64.wrap (jj : Int) = (jj : Int) := IntWalk.i64_in _ (by omega)
            have z2 : (jj : Int) < (m : Int) := by omega
            have hi9 : (j2 : Int) + 1 ≤ 1000000000 := by omega
            have hz9 := HI.out.z
            have hij9 := HI.out.ij
            have hi10 : (i : Int) + 1 ≤ 1000000000 := by omega
            have z3 : (i : Int) < (n : Int) := by omega
            obtain ⟨k6, cA, cB, hk6, hcA, l1, l2, hcg⟩ := eq_facts HR.out HI.out.s (by rw [hz9, HA0.out]; omega) (k + j2) (k + jj) (by omega) (by omega) (k * 6 + j2 * 6) (k * 6 + jj * 6) (by omega) (by omega)
            obtain ⟨r, hr⟩ : ∃ r, r = decide (D[k + j2]!.1 = D[k + jj]!.1) := ⟨_, rfl⟩
            rw [← hr] at hcg
            have HRR := Lib.hid (show r = true ↔ (l[k + j2]'hL9).1 = (l[k + j2 - 1]'hL8).1 from by
              rw [hr, decide_eq_true_eq, HI.out.tl (k + j2) (by omega), HI.out.tl (k + jj) (by omega), getElem!_pos l (k + j2) (by omega), getElem!_pos l (k + jj) (by omega)]
              have : k + j2 - 1 = k + jj := by omega
              simp only [this])
            have mixed := mixedA
            have eg := egQ
            have HJJ := Lib.hid (show j2 = jj + 1 from hjj)
            have HZ9 := Lib.hid (show D.size = n from by omega)
            clear hr hlt hjj hk9 hm9 hn99 hz9 hij9 hcA
            go_upto_region 11 with fail
            obtain ⟨T, hT⟩ : ∃ T, T = 39 := ⟨_, rfl⟩
            rw [show Op.load 39 = Op.load T by rw [hT]]
            have aT : ∀ w, (isAgg T).run Try.prog w = .ok true w := by rw [hT]; exact Try.isAgg39
            have zT : ∀ w, (Go.sizeOf T).run Try.prog w = .ok k6 w := by rw [hT, hk6]; exact Try.sizeOf39
            clear hT hk6
            cases r with
            | true =>
              go_wp2_with fail
              go_quiet_grown (first | (go_at_fn 36; refine Calls.grown_of (hcg _ _)))
              have HX3 := Lib.hid (HI.out.s.grown nq osq)
              clear q1 q2 l1 l2 hcg
              generalize grow (wr.drewN nq) osq = w9 at *
              have HI2 := Lib.hid (show CmpI w g l i (k + (j2 + 1)) D w9 from by
                have h1 := HL2.out
                have h2 := HM.out
                have h3 := HN.out
                have h4 : Pl.dd (l.take (k + (j2 + 1))) = Pl.dd (l.take (k + j2)) := by rw [show k + (j2 + 1) = k + j2 + 1 by omega, HSN.out, if_pos (HRR.out.1 (by first | rfl | trivial)), List.append_nil]
                exact ⟨HX3.out, HI.out.z, by have := HI.out.ij; omega, by omega, by rw [h4]; exact HI.out.hd, by rw [h4]; exact HI.out.il, fun t ht => HI.out.tl t (by omega)⟩)
              go_wp2
              go_roundg (m - (j2 + 1))
              case measure => have h1 := HJ.out; have h2 := HL2.out; omega
              case rel => exact ⟨i, j2 + 1, D, rfl, by first | rfl | go_num, by omega, HL2.out, Nat.le_refl _, HI2.out⟩
            | false =>
              go_wp2_with fail
              go_quiet_grown (first | (go_at_fn 36; refine Calls.grown_of (hcg _ _)))
              have HX3 := Lib.hid (HI.out.s.grown nq osq)
              clear q1 q2 l1 l2 hcg aT zT
              generalize grow (wr.drewN nq) osq = w9 at *
              obtain ⟨k6, cA, hk6, lA, l1, s1, sw⟩ := put_facts HR.out HX3.out (by rw [HZ9.out, HA0.out]) (k + j2) i (by have h1 := HL2.out; have h2 := HM.out; have h3 := HZ9.out; omega) (by have h1 := HI.out.ij; have h4 := HI.out.jn; have h2 := HN.out; have h3 := HZ9.out; omega) (k * 6 + j2 * 6) (i * 6) (by omega) (by omega)
              have HSW := Lib.hid sw
              have HI2 := Lib.hid (show CmpI w g l (i + 1) (k + (j2 + 1)) (D.setIfInBounds i D[k + j2]!) (w9.setCells g (i * 6) cA) from by
                have h1 := HL2.out
                have h2 := HM.out
                have h3 := HN.out
                have h6 := HI.out.ij
                have h7 := HI.out.z
                have h4 : Pl.dd (l.take (k + (j2 + 1))) = Pl.dd (l.take (k + j2)) ++ [D[k + j2]!] := by rw [show k + (j2 + 1) = k + j2 + 1 by omega, HSN.out, if_neg (fun h => by have := HRR.out.2 h; cases this), HEX.out]
                refine ⟨sw, by simp [h7], by omega, by omega, ?_, by rw [h4, List.length_append, HI.out.il]; rfl, fun t ht => ?_⟩
                · rw [h4, ← HI.out.hd, Array.toList_setIfInBounds, List.take_succ_eq_append_getElem (by simp; omega), List.take_set_of_le (Nat.le_refl _)]
                  simp
                · rw [← HI.out.tl t (by omega)]
                  by_cases q : t < D.size
                  · rw [getElem!_pos _ t (by simpa using q), getElem!_pos D t q, Array.getElem_setIfInBounds, if_neg (by omega)]
                  · rw [getElem!_neg _ t (by simpa using q), getElem!_neg D t q])
              clear sw
              go_upto_region 12 with fail
              obtain ⟨T, hT⟩ : ∃ T, T = 39 := ⟨_, rfl⟩
              rw [← hT]
              have aT : ∀ w, (isAgg T).run Try.prog w = .ok true w := by rw [hT]; exact Try.isAgg39
              have zT : ∀ w, (Go.sizeOf T).run Try.prog w = .ok k6 w := by rw [hT, hk6]; exact Try.sizeOf39
              clear hT hk6
              go_wp2
              go_roundg (m - (j2 + 1))
              case measure => have h1 := HJ.out; have h2 := HL2.out; omega
              case rel => exact ⟨i + 1, j2 + 1, _, by first | rfl | go_num, by first | rfl | go_num, by omega, HL2.out, Nat.le_refl _, HI2.out⟩
          · have g1 : ¬ (j2 : Int) < (m : Int) := by omega
            have hij9 := HI.out.ij
            have hjn9 := HI.out.jn
            have HI3 := Lib.hid (show CmpI w g l i n D wr from by have h := HI.out; rw [show k + j2 = n by omega] at h; exact h)
            have hlo := fun w => run_lo_at elemA (b := g) (n := n) (c := cap) (k := i) (by omega) HN.out.2.2 w
            have hhi := fun w => run_hi_at elemA (b := g) (n := n) (c := cap) (k := i) (by omega) w
            obtain ⟨nn, os, hwr⟩ := HI.out.s
            obtain ⟨p1, p2⟩ := own_sorted (enc := encA.enc) encA.len encA.pos HO.out HI.out.z hwr
            have hoe : OE 39 base wr (.slice (some ⟨g, 0, none⟩) n cap) D.toList := by
              unfold OE
              rw [show D.toList.length = l.length by simpa using HI.out.z, HN.out.1]
              exact p1
            rcases hoe.open_ with ⟨h, _⟩ | ⟨b', cap', cur, he, hbb, hblk, hnc, hcm, hcs, hhas⟩
            · cases h
            injection he with e1 e2 e3
            injection e1 with e1
            injection e1 with e1
            subst e1 e3
            have hz9 := HI.out.z
            have hdl : D.toList.length = n := by simp; omega
            obtain ⟨zs, hzs, hcl⟩ := run_clearK elemA (by decide) hblk (o := i * 6) (n := n - i) (c := cap - i) (by omega) (by rw [hcs]; show i * 6 + (n - i) * 6 ≤ cap * 6; omega)
            have HZS := Lib.hid hzs
            have HBLK := Lib.hid hblk
            have HP2 := Lib.hid p2
            have HF := Lib.hid (show OE 39 base (wr.setCells g (i * 6) zs) (.slice (some ⟨g, 0, none⟩) i cap) (Pl.dd l) from by
              have h5 := Blk.setCells (w := wr) zs (i * 6) hblk
              have ht : Has cur 0 (eV (D.toList.take i)) := by
                rw [← eV_take]
                intro j u hu
                rw [List.getElem?_take] at hu
                split at hu
                · exact hhas j u hu
                · cases hu
              have h9 := HI3.out.hd
              have h8 := HI3.out.il
              rw [HN.out.1, List.take_length] at h9 h8
              rw [h9] at ht
              have h2 := ht.out (q := i * 6) (ds := zs) (.inl (by rw [eV_len, h8]; show 0 + i * 6 ≤ _; omega))
              exact OE.shut h8 hbb h5 (by omega) hcm (by rw [setL_size]; exact hcs) h2)
            have HG := Lib.hid (show w.grownBy (wr.setCells g (i * 6) zs) (some g) from by
              have hx5 : ExtQ (fun k => k = g) wr (wr.setCells g (i * 6) zs) := ExtQ.setCells (Q := fun k => k = g) (g := g) (ExtQ.refl _ _) rfl zs (i * 6)
              exact ⟨hx5.os.trans p2.os, hx5.tape.trans p2.tape, hx5.output.trans p2.output, Nat.le_trans p2.size hx5.size, fun q hq hne => (hx5.block q (Nat.lt_of_lt_of_le hq p2.size) (fun e => hne (by rw [e]))).trans (p2.block q hq hne)⟩)
            clear hzs hblk hoe p1 p2 hwr hnc hcm hcs hhas hz9 hdl hij9 hjn9 hlt hk9 hm9 hn99
            try clear e2
            go_wp2
            go_ret
            exact ⟨_, rfl, HF.out, HG.out⟩
    · have g1 : ¬ (k : Int) < (n : Int) := by omega
      have HD := Lib.hid (show Pl.dd l = l from by
        have h := HDD.out
        rw [show k = l.length by have h1 := HK.out; have h2 := HN.out; omega, List.take_length] at h
        exact h)
      obtain ⟨nn, os, hwr⟩ := HX.out
      obtain ⟨p1, p2⟩ := own_sorted (enc := encA.enc) encA.len encA.pos HO.out (by simp) hwr
      have HF := Lib.hid (show OE 39 base wr (.slice (some ⟨g, 0, none⟩) n cap) (Pl.dd l) from by
        rw [HD.out]
        unfold OE
        rw [HN.out.1]
        have h := p1
        rw [show l.toArray.toList = l by simp] at h
        exact h)
      have HG := Lib.hid p2
      clear p1 p2 hwr hlt
      go_wp2
      go_ret
      exact ⟨_, rfl, HF.out, HG.out⟩
end Go.Proofs.Ytcacicgkebcdkaa
