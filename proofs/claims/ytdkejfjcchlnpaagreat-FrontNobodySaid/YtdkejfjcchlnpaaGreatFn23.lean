/-
  PlCompact, packed: what the claim needs of them.
-/
import Derived.Test.YtdkejfjcchlnpaaGreatFn18
import Derived.Test.YtdkejfjcchlnpaaGreatFn22
set_option maxHeartbeats 40000000
open Go.Lib (hid)
set_option linter.unusedSimpArgs false
set_option linter.unusedVariables false
namespace Go.Ox.Pl
open Go.Proofs Go.Sort Go.RowKit
theorem a9V (l : List Ar) (t : Nat) : l.toArray[t]! = l[t]! := by
 by_cases h : t < l.length
 · rw [getElem!_pos _ t (by simpa using h), getElem!_pos l t h]; simp
 rw [getElem!_neg _ t (by simpa using h), getElem!_neg l t h]
section
variable {α : Type} [Inhabited α]
theorem b3G (d : Array α) {i : Nat} (hi : i < d.size) (x : α) (k : Nat) : (d.setIfInBounds i x)[k]! = if k = i then x else d[k]! := by
 simp only [getElem!_def, Array.getElem?_setIfInBounds]
 by_cases h : k = i
 · subst h; simp [hi]
 simp [Ne.symm h, h]
theorem b1X (enc : α → List Value) (k : Nat) (hk : ∀ x, (enc x).length = k) (d : Array α) (i : Nat) (x : α) (hi : i < d.size) : setMany (flatK enc k d) (i * k) (enc x) = flatK enc k (d.setIfInBounds i x) := by
 refine ext_get! (by simp) fun t ht => ?_
 have ht' : t < d.size * k := by simpa using ht
 have k0 : 0 < k := by
  rcases Nat.eq_zero_or_pos k with h | h
  · subst h; simp at ht'
  exact h
 rw [get_setMany _ _ _ t (by simpa using ht'), get_flatK _ _ _ t ht', get_flatK _ _ _ t (by simpa using ht'), hk, b3G d hi]
 by_cases h : t / k = i
 · rw [if_pos ((blk_iff k i t k0).2 h), if_pos h]
   subst h;rw [Nat.mod_eq_sub_div_mul]
 rw [if_neg (fun q => h ((blk_iff k i t k0).1 q)), if_neg h]
theorem b3H {enc : α → List Value} {k : Nat} (hk : ∀ x, (enc x).length = k) {w0 W : World} {blk off : Nat} {D : Array α} (S : SWK enc k w0 blk off D W) (hblk : blk < w0.heap.size) (i : Nat) (hi : i < D.size) (x : α) : SWK enc k w0 blk off (D.setIfInBounds i x) (W.setCells blk (off + i * k) (enc x)) := by
 obtain ⟨n, os, rfl⟩ := S;refine ⟨n, os, ?_⟩;unfold sortWorldK;rw [setCells_grow os blk _ _ _ (by rw [size_putRowK]; exact hblk)]
 congr 1
 unfold putRowK;rw [setCells_putRow _ _ _ _ _ _ (by rw [size_flatK, hk]; exact rowK_bnd D k i hi), b1X enc k hk D i x hi]
end
end Go.Ox.Pl
namespace Go.Proofs.YtdkejfjcchlnpaaGreat
open Go.RowKit Go.Ox Go.Shelf Go.Sort Go.Ox.Gr
theorem egQ : ∀ args w, (callFunc 174 args).run Tryz.prog w = .ok (.enter 174 args) w := enters_of Tryz.func174 (by kernel_rfl) rfl
section
variable {w0 : World} {blk off : Nat} {d0 : Array Pl.Ar}
theorem a7Q (R : RowK encA.enc 6 w0 blk off d0) {D : Array Pl.Ar} {W : World} (S : SWK encA.enc 6 w0 blk off D W) (hs : D.size = d0.size) (x y : Nat) (hx : x < D.size) (hy : y < D.size) (px py : Nat) (hpx : px = off + x * 6) (hpy : py = off + y * 6) :
 ∃ (kk : Nat) (cA cB : List Value), kk = 6 ∧ cA = encA.enc D[x]! ∧
  (∀ n os, Sem.run Tryz.prog (loadCellsFrom ⟨blk, px, none⟩ 0 kk #[]) (grow (W.drewN n) os) = .ok cA.toArray (grow (W.drewN n) os)) ∧
  (∀ n os, Sem.run Tryz.prog (loadCellsFrom ⟨blk, py, none⟩ 0 kk #[]) (grow (W.drewN n) os) = .ok cB.toArray (grow (W.drewN n) os)) ∧
  (∀ n os, Calls Tryz.prog 174 (#[.agg cA.toArray, .agg cB.toArray] ++ #[]) (grow (W.drewN n) os) fun e w' => e = .returned (.bool (decide (D[x]!.1 = D[y]!.1))) ∧ ∃ q os', w' = grow ((grow (W.drewN n) os).drewN q) os') := by
 subst hpx hpy;exact ⟨6, encA.enc D[x]!, encA.enc D[y]!, rfl, rfl, fun n os => S.ld R hs _ x hx n os, fun n os => S.ld R hs _ y hy n os, fun n os => a6Z D[x]! D[y]! _⟩
theorem a9W (R : RowK encA.enc 6 w0 blk off d0) {D : Array Pl.Ar} {W : World} (S : SWK encA.enc 6 w0 blk off D W) (hs : D.size = d0.size) (x i : Nat) (hx : x < D.size) (hi : i < D.size) (px pi : Nat) (hpx : px = off + x * 6) (hpi : pi = off + i * 6) :
 ∃ (kk : Nat) (cA : List Value), kk = 6 ∧ cA.length = kk ∧
  Sem.run Tryz.prog (loadCellsFrom ⟨blk, px, none⟩ 0 kk #[]) W = .ok cA.toArray W ∧
  Sem.run Tryz.prog (storeCells ⟨blk, pi, none⟩ cA 0) W = .ok () (W.setCells blk pi cA) ∧ SWK encA.enc 6 w0 blk off (D.setIfInBounds i D[x]!) (W.setCells blk pi cA) := by
 subst hpx hpi;exact ⟨6, encA.enc D[x]!, rfl, rfl, S.load R hs _ x hx, stores_of_holds _ (S.holds R.hblk R.hH hs) (i * 6) _ (by rw [encA.len, size_flatK]; show i * 6 + 6 ≤ D.size * 6; omega) (encA.one _), Pl.b3H encA.len S R.hblk i hi _⟩
end
structure CmpI (w0 : World) (g : Nat) (l : List Pl.Ar) (i j : Nat) (D : Array Pl.Ar) (W : World) : Prop where
 s : SWK encA.enc 6 w0 g 0 D W
 z : D.size = l.length
 ij : i < j
 jn : j ≤ l.length
 hd : D.toList.take i = Pl.dd (l.take j)
 il : (Pl.dd (l.take j)).length = i
 tl : ∀ t, j - 1 ≤ t → D[t]! = l[t]!
set_option maxRecDepth 1000000 in
theorem a71 (g cap base : Nat) (l : List Pl.Ar) (w : World) (hown : OE 144 base w (.slice (some ⟨g, 0, none⟩) l.length cap) l) (hl : l.length ≤ 1000000) :
 Calls Tryz.prog 173 #[.slice (some ⟨g, 0, none⟩) l.length cap, .func (.func 174) #[] #[]] w fun e w' => ∃ v', e = .returned v' ∧ OE 144 base w' v' (Pl.dd l) ∧ w.grownBy w' (some g) := by
 have how : w.ownsRow base 144 6 (.slice (some ⟨g, 0, none⟩) l.length cap) l.length (l.flatMap encA.enc) := hown.own;have hH := a0R (enc := encA.enc) encA.len encA.pos how;have HR := hid (rowA hH (how.lt g rfl).2);have HS := hid (SWK.start hH);have HOWN := hid hown;have HO := hid how;obtain ⟨n, hn⟩ : ∃ n, n = l.length := ⟨_, rfl⟩
 have hcap : n ≤ cap := by
  rcases hown.open_ with ⟨h, _⟩ | ⟨b, cap', cur, he, _, _, hnc, _⟩
  · cases h
  injection he with e1 e2 e3; omega
 have hn9 : (n : Int) ≤ 1000000 := by omega
 have HN := hid (show n = l.length ∧ n ≤ 1000000 ∧ n ≤ cap from ⟨hn, by omega, hcap⟩)
 rw [← hn];have HA0 := hid (show l.toArray.size = n by simp [hn])
 have HLA := hid (show ∀ t, l.toArray[t]! = l[t]! from fun t => Pl.a9V l t)
 clear how hH hown hl hn hcap
 go_enter Tryz.func173, Tryz.ntmps173
 by_cases h2 : n < 2
 · have g1 : (n : Int) < 2 := by omega
   have HD := hid (Pl.b1R (l := l) (by have := HN.o; omega))
   clear h2
   go_wp2
   go_ret
   exact ⟨_, rfl, by rw [HD.o, HN.o.1]; exact HOWN.o, World.grownBy.refl _ _⟩
 have g1 : ¬ (n : Int) < 2 := by omega
 have HN2 := hid h2;clear h2
 go_wp2
 clear g1
 go_loopg [5] n (fun gg kv wr => ∃ k : Nat, kv = .int .i64 (k : Int) ∧ 0 < k ∧ k ≤ n ∧ n - k ≤ gg ∧ Pl.dd (l.take k) = l.take k ∧ SWK encA.enc 6 w g 0 l.toArray wr)
 case atStart => exact ⟨1, rfl, by omega, by have := HN2.o; omega, by omega, Pl.dd_one (by have := HN2.o; have := HN.o; omega), HS.o⟩
 case round =>
 obtain ⟨k, rfl, hk0, hkn, hg, hdd, hx⟩ := hrel;have HK := hid (show 0 < k ∧ k ≤ n ∧ n - k ≤ gk from ⟨hk0, hkn, hg⟩);have HDD := hid hdd;have HX := hid hx;clear hk0 hkn hdd hx hg
 by_cases hlt : k < n
 · have g1 : (k : Int) < (n : Int) := by omega
   have HLT := hid hlt;have hkl : k < l.length := by have := HN.o; omega
   have hkp : k - 1 < l.length := by have := HN.o; omega
   have HSN := hid (Pl.a9P (l := l) (j := k) HK.o.1 hkl);have HKT := hid (List.take_succ_eq_append_getElem (l := l) (i := k) (by have := HN.o; omega))
   obtain ⟨kk, hkk⟩ : ∃ kk, k = kk + 1 := ⟨k - 1, by have := HK.o; omega⟩
   have q1 : ((k : Int) - 1) = (kk : Int) := by omega
   have q2 : IntKind.i64.wrap (kk : Int) = (kk : Int) := IntWalk.i64_in _ (by omega)
   have z2 : (kk : Int) < (n : Int) := by omega
   have hi9 : (k : Int) + 1 ≤ 1000000000 := by omega
   obtain ⟨k6, cA, cB, hk6, -, l1, l2, hcg⟩ := a7Q HR.o HX.o rfl k kk (by rw [HA0.o]; omega) (by rw [HA0.o]; omega) (k * 6) (kk * 6) (by omega) (by omega)
   obtain ⟨r, hr⟩ : ∃ r, r = decide (l.toArray[k]!.1 = l.toArray[kk]!.1) := ⟨_, rfl⟩;rw [← hr] at hcg
   have HRR := hid (show r = true ↔ (l[k]'hkl).1 = (l[k - 1]'hkp).1 from by
    rw [hr, decide_eq_true_eq, HLA.o, HLA.o, getElem!_pos l k (by have := HN.o; omega), getElem!_pos l kk (by have := HN.o; omega)]
    have : k - 1 = kk := by omega
    simp only [this])
   have mixed := a3z;have eg := egQ;clear hr hlt hkk
   go_upto_region 6 with fail
   obtain ⟨T, hT⟩ : ∃ T, T = 144 := ⟨_, rfl⟩;rw [← hT];have aT : ∀ w, (isAgg T).run Tryz.prog w = .ok true w := by rw [hT]; exact Tryz.isAgg144
   have zT : ∀ w, (Go.sizeOf T).run Tryz.prog w = .ok k6 w := by rw [hT, hk6]; exact Tryz.sizeOf144
   clear hT hk6
   cases r with
   | false =>
    go_wp2_with fail
    go_quiet_grown (first | (go_at_fn 174; refine Calls.grown_of (hcg _ _)))
    have HX2 := hid (HX.o.grown nq osq);clear q1 q2 l1 l2 hcg;generalize grow (wr.drewN nq) osq = w9 at *
    go_wp2
    go_roundg (n - (k + 1))
    case measure => have h1 := HK.o; have h2 := HLT.o; omega
    case rel => exact ⟨k + 1, by first | rfl | go_num, by omega, HLT.o, Nat.le_refl _, by rw [HSN.o, HKT.o, HDD.o, if_neg (fun h => by have := HRR.o.2 h; cases this)], HX2.o⟩
   | true =>
   go_wp2_with fail
   go_quiet_grown (first | (go_at_fn 174; refine Calls.grown_of (hcg _ _)))
   have HX2 := hid (HX.o.grown nq osq);clear q1 q2 l1 l2 hcg;generalize grow (wr.drewN nq) osq = w9 at *
   have HI0 := hid (show CmpI w g l k (k + 1) l.toArray w9 from by
    have h1 := HLT.o;have h2 := HN.o;have h3 : Pl.dd (l.take (k + 1)) = l.take k := by rw [HSN.o, HDD.o, if_pos (HRR.o.1 (by first | rfl | trivial)), List.append_nil]
    exact ⟨HX2.o, by simp, by omega, by omega, by rw [h3], by rw [h3, List.length_take]; omega, fun t _ => HLA.o t⟩)
   have hlo := fun w => a3Y a5L (b := g) (n := n) (c := cap) (k := k) HLT.o HN.o.2.2 w
   obtain ⟨m, hm⟩ : ∃ m, m = n - k := ⟨_, rfl⟩;rw [← hm] at hlo;have HM := hid hm;clear hm g1
   go_wp2
   clear hlo
   go_loopg [5, 7] m (fun gg iv jv wr => ∃ (i j2 : Nat) (D : Array Pl.Ar), iv = .int .i64 (i : Int) ∧ jv = .int .i64 (j2 : Int) ∧ 0 < j2 ∧ j2 ≤ m ∧ m - j2 ≤ gg ∧ CmpI w g l i (k + j2) D wr)
   case atStart => exact ⟨k, 1, l.toArray, rfl, rfl, by omega, by have h1 := HLT.o; have h2 := HM.o; omega, by omega, HI0.o⟩
   case round =>
   obtain ⟨i, j2, D, rfl, rfl, hj0, hjm, hg, hI⟩ := hrel;have HJ := hid (show 0 < j2 ∧ j2 ≤ m ∧ m - j2 ≤ gk from ⟨hj0, hjm, hg⟩);have HI := hid hI;clear hj0 hjm hg hI HI0;have hk9 := HLT.o;have hm9 := HM.o;have hn99 := HN.o
   by_cases hlt : j2 < m
   · have g1 : (j2 : Int) < (m : Int) := by omega
     have HL2 := hid hlt;have hL9 : k + j2 < l.length := by omega
     have hL8 : k + j2 - 1 < l.length := by omega
     have hK9 : 0 < k + j2 := by have := HK.o; omega
     have HSN := hid (Pl.a9P (l := l) (j := k + j2) hK9 hL9);have HEX := hid (show D[k + j2]! = l[k + j2]'hL9 from by rw [HI.o.tl _ (by omega), getElem!_pos l (k + j2) hL9])
     obtain ⟨jj, hjj⟩ : ∃ jj, j2 = jj + 1 := ⟨j2 - 1, by have := HJ.o; omega⟩
     have q1 : ((j2 : Int) - 1) = (jj : Int) := by omega
     have q2 : IntKind.i64.wrap (jj : Int) = (jj : Int) := IntWalk.i64_in _ (by omega)
     have z2 : (jj : Int) < (m : Int) := by omega
     have hi9 : (j2 : Int) + 1 ≤ 1000000000 := by omega
     have hz9 := HI.o.z;have hij9 := HI.o.ij;have hi10 : (i : Int) + 1 ≤ 1000000000 := by omega
     have z3 : (i : Int) < (n : Int) := by omega
     obtain ⟨k6, cA, cB, hk6, hcA, l1, l2, hcg⟩ := a7Q HR.o HI.o.s (by rw [hz9, HA0.o]; omega) (k + j2) (k + jj) (by omega) (by omega) (k * 6 + j2 * 6) (k * 6 + jj * 6) (by omega) (by omega)
     obtain ⟨r, hr⟩ : ∃ r, r = decide (D[k + j2]!.1 = D[k + jj]!.1) := ⟨_, rfl⟩;rw [← hr] at hcg
     have HRR := hid (show r = true ↔ (l[k + j2]'hL9).1 = (l[k + j2 - 1]'hL8).1 from by
      rw [hr, decide_eq_true_eq, HI.o.tl (k + j2) (by omega), HI.o.tl (k + jj) (by omega), getElem!_pos l (k + j2) (by omega), getElem!_pos l (k + jj) (by omega)]
      have : k + j2 - 1 = k + jj := by omega
      simp only [this])
     have mixed := a3z;have eg := egQ;have HJJ := hid (show j2 = jj + 1 from hjj);have HZ9 := hid (show D.size = n from by omega)
     clear hr hlt hjj hk9 hm9 hn99 hz9 hij9 hcA
     go_upto_region 11 with fail
     obtain ⟨T, hT⟩ : ∃ T, T = 144 := ⟨_, rfl⟩;rw [show Op.load 144 = Op.load T by rw [hT]]
     have aT : ∀ w, (isAgg T).run Tryz.prog w = .ok true w := by rw [hT]; exact Tryz.isAgg144
     have zT : ∀ w, (Go.sizeOf T).run Tryz.prog w = .ok k6 w := by rw [hT, hk6]; exact Tryz.sizeOf144
     clear hT hk6
     cases r with
     | true =>
      go_wp2_with fail
      go_quiet_grown (first | (go_at_fn 174; refine Calls.grown_of (hcg _ _)))
      have HX3 := hid (HI.o.s.grown nq osq);clear q1 q2 l1 l2 hcg;generalize grow (wr.drewN nq) osq = w9 at *
      have HI2 := hid (show CmpI w g l i (k + (j2 + 1)) D w9 from by
       have h1 := HL2.o;have h2 := HM.o;have h3 := HN.o;have h4 : Pl.dd (l.take (k + (j2 + 1))) = Pl.dd (l.take (k + j2)) := by rw [show k + (j2 + 1) = k + j2 + 1 by omega, HSN.o, if_pos (HRR.o.1 (by first | rfl | trivial)), List.append_nil]
       exact ⟨HX3.o, HI.o.z, by have := HI.o.ij; omega, by omega, by rw [h4]; exact HI.o.hd, by rw [h4]; exact HI.o.il, fun t ht => HI.o.tl t (by omega)⟩)
      go_wp2
      go_roundg (m - (j2 + 1))
      case measure => have h1 := HJ.o; have h2 := HL2.o; omega
      case rel => exact ⟨i, j2 + 1, D, rfl, by first | rfl | go_num, by omega, HL2.o, Nat.le_refl _, HI2.o⟩
     | false =>
     go_wp2_with fail
     go_quiet_grown (first | (go_at_fn 174; refine Calls.grown_of (hcg _ _)))
     have HX3 := hid (HI.o.s.grown nq osq);clear q1 q2 l1 l2 hcg aT zT;generalize grow (wr.drewN nq) osq = w9 at *;obtain ⟨k6, cA, hk6, lA, l1, s1, sw⟩ := a9W HR.o HX3.o (by rw [HZ9.o, HA0.o]) (k + j2) i (by have h1 := HL2.o; have h2 := HM.o; have h3 := HZ9.o; omega) (by have h1 := HI.o.ij; have h4 := HI.o.jn; have h2 := HN.o; have h3 := HZ9.o; omega) (k * 6 + j2 * 6) (i * 6) (by omega) (by omega)
     have HSW := hid sw
     have HI2 := hid (show CmpI w g l (i + 1) (k + (j2 + 1)) (D.setIfInBounds i D[k + j2]!) (w9.setCells g (i * 6) cA) from by
      have h1 := HL2.o;have h2 := HM.o;have h3 := HN.o;have h6 := HI.o.ij;have h7 := HI.o.z;have h4 : Pl.dd (l.take (k + (j2 + 1))) = Pl.dd (l.take (k + j2)) ++ [D[k + j2]!] := by rw [show k + (j2 + 1) = k + j2 + 1 by omega, HSN.o, if_neg (fun h => by have := HRR.o.2 h; cases this), HEX.o]
      refine ⟨sw, by simp [h7], by omega, by omega, ?_, by rw [h4, List.length_append, HI.o.il]; rfl, fun t ht => ?_⟩
      · rw [h4, ← HI.o.hd, Array.toList_setIfInBounds, List.take_succ_eq_append_getElem (by simp; omega), List.take_set_of_le (Nat.le_refl _)]
        simp
      rw [← HI.o.tl t (by omega)]
      by_cases q : t < D.size
      · rw [getElem!_pos _ t (by simpa using q), getElem!_pos D t q, Array.getElem_setIfInBounds, if_neg (by omega)]
      rw [getElem!_neg _ t (by simpa using q), getElem!_neg D t q])
     clear sw
     go_upto_region 12 with fail
     obtain ⟨T, hT⟩ : ∃ T, T = 144 := ⟨_, rfl⟩;rw [← hT];have aT : ∀ w, (isAgg T).run Tryz.prog w = .ok true w := by rw [hT]; exact Tryz.isAgg144
     have zT : ∀ w, (Go.sizeOf T).run Tryz.prog w = .ok k6 w := by rw [hT, hk6]; exact Tryz.sizeOf144
     clear hT hk6
     go_wp2
     go_roundg (m - (j2 + 1))
     case measure => have h1 := HJ.o; have h2 := HL2.o; omega
     case rel => exact ⟨i + 1, j2 + 1, _, by first | rfl | go_num, by first | rfl | go_num, by omega, HL2.o, Nat.le_refl _, HI2.o⟩
   have g1 : ¬ (j2 : Int) < (m : Int) := by omega
   have hij9 := HI.o.ij;have hjn9 := HI.o.jn;have HI3 := hid (show CmpI w g l i n D wr from by have h := HI.o; rw [show k + j2 = n by omega] at h; exact h)
   have hlo := fun w => a3Y a5L (b := g) (n := n) (c := cap) (k := i) (by omega) HN.o.2.2 w
   have hhi := fun w => a6c a5L (b := g) (n := n) (c := cap) (k := i) (by omega) w
   obtain ⟨nn, os, hwr⟩ := HI.o.s;obtain ⟨p1, p2⟩ := a1k (enc := encA.enc) encA.len encA.pos HO.o HI.o.z hwr
   have hoe : OE 144 base wr (.slice (some ⟨g, 0, none⟩) n cap) D.toList := by
    unfold OE;rw [show D.toList.length = l.length by simpa using HI.o.z, HN.o.1]
    exact p1
   rcases hoe.open_ with ⟨h, _⟩ | ⟨b', cap', cur, he, hbb, hblk, hnc, hcm, hcs, hhas⟩
   · cases h
   injection he with e1 e2 e3
   injection e1 with e1
   injection e1 with e1
   subst e1 e3;have hz9 := HI.o.z;have hdl : D.toList.length = n := by simp; omega
   obtain ⟨zs, hzs, hcl⟩ := a4O a5L (by decide) hblk (o := i * 6) (n := n - i) (c := cap - i) (by omega) (by rw [hcs]; show i * 6 + (n - i) * 6 ≤ cap * 6; omega)
   have HZS := hid hzs;have HBLK := hid hblk;have HP2 := hid p2
   have HF := hid (show OE 144 base (wr.setCells g (i * 6) zs) (.slice (some ⟨g, 0, none⟩) i cap) (Pl.dd l) from by
    have h5 := Blk.setCells (w := wr) zs (i * 6) hblk
    have ht : Has cur 0 (eV (D.toList.take i)) := by
     rw [← a9j];intro j u hu;rw [List.getElem?_take] at hu
     split at hu
     · exact hhas j u hu
     cases hu
    have h9 := HI3.o.hd;have h8 := HI3.o.il;rw [HN.o.1, List.take_length] at h9 h8;rw [h9] at ht;have h2 := ht.o (q := i * 6) (ds := zs) (.inl (by rw [a3V, h8]; show 0 + i * 6 ≤ _; omega))
    exact OE.shut h8 hbb h5 (by omega) hcm (by rw [a2H]; exact hcs) h2)
   have HG := hid (show w.grownBy (wr.setCells g (i * 6) zs) (some g) from by
    have hx5 : ExtQ (fun k => k = g) wr (wr.setCells g (i * 6) zs) := ExtQ.setCells (Q := fun k => k = g) (g := g) (ExtQ.refl _ _) rfl zs (i * 6)
    exact ⟨hx5.os.trans p2.os, hx5.tape.trans p2.tape, hx5.output.trans p2.output, Nat.le_trans p2.size hx5.size, fun q hq hne => (hx5.block q (Nat.lt_of_lt_of_le hq p2.size) (fun e => hne (by rw [e]))).trans (p2.block q hq hne)⟩)
   clear hzs hblk hoe p1 p2 hwr hnc hcm hcs hhas hz9 hdl hij9 hjn9 hlt hk9 hm9 hn99
   try clear e2
   go_wp2
   go_ret
   exact ⟨_, rfl, HF.o, HG.o⟩
 have g1 : ¬ (k : Int) < (n : Int) := by omega
 have HD := hid (show Pl.dd l = l from by
  have h := HDD.o;rw [show k = l.length by have h1 := HK.o; have h2 := HN.o; omega, List.take_length] at h
  exact h)
 obtain ⟨nn, os, hwr⟩ := HX.o;obtain ⟨p1, p2⟩ := a1k (enc := encA.enc) encA.len encA.pos HO.o (by simp) hwr
 have HF := hid (show OE 144 base wr (.slice (some ⟨g, 0, none⟩) n cap) (Pl.dd l) from by
  rw [HD.o];unfold OE;rw [HN.o.1];have h := p1;rw [show l.toArray.toList = l by simp] at h
  exact h)
 have HG := hid p2;clear p1 p2 hwr hlt
 go_wp2
 go_ret
 exact ⟨_, rfl, HF.o, HG.o⟩
end Go.Proofs.YtdkejfjcchlnpaaGreat
