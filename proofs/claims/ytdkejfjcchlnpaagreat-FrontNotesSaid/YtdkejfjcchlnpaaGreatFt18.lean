/-
  PlCompact, PlMath, GrNamed, GrNodeAt2, packed: what the claim needs of them.
-/
import Derived.Test.YtdkejfjcchlnpaaGreatFt15
import Derived.Test.YtdkejfjcchlnpaaGreatFt17
set_option maxHeartbeats 40000000
open Go.Lib (hid)
set_option linter.unusedSimpArgs false
set_option linter.unusedVariables false
set_option maxRecDepth 100000
namespace Go.Ox.Pl
open Go.Proofs Go.Sort Go.RowKit
theorem b20 (l : List Ar) (t : Nat) : l.toArray[t]! = l[t]! := by
 by_cases h : t < l.length
 . rw [getElem!_pos _ t (by simpa using h), getElem!_pos l t h]; simp
 rw [getElem!_neg _ t (by simpa using h), getElem!_neg l t h]
section
variable {α : Type} [Inhabited α]
theorem b6e (d : Array α) {i : Nat} (hi : i < d.size) (x : α) (k : Nat) : (d.setIfInBounds i x)[k]! = if k = i then x else d[k]! := by
 simp only [getElem!_def, Array.getElem?_setIfInBounds]
 by_cases h : k = i
 . subst h; simp [hi]
 simp [Ne.symm h, h]
theorem b4g (enc : α -> List Value) (k : Nat) (hk : ∀ x, (enc x).length = k) (d : Array α) (i : Nat) (x : α) (hi : i < d.size) : setMany (flatK enc k d) (i * k) (enc x) = flatK enc k (d.setIfInBounds i x) := by
 refine ext_get! (by simp) fun t ht => ?_
 have ht' : t < d.size * k := by simpa using ht
 have k0 : 0 < k := by
  rcases Nat.eq_zero_or_pos k with h | h
  . subst h; simp at ht'
  exact h
 rw [get_setMany _ _ _ t (by simpa using ht'), get_flatK _ _ _ t ht', get_flatK _ _ _ t (by simpa using ht'), hk, b6e d hi]
 by_cases h : t / k = i
 . rw [if_pos ((blk_iff k i t k0).2 h), if_pos h]
   subst h;rw [Nat.mod_eq_sub_div_mul]
 rw [if_neg (fun q => h ((blk_iff k i t k0).1 q)), if_neg h]
theorem b6f {enc : α -> List Value} {k : Nat} (hk : ∀ x, (enc x).length = k) {w0 W : World} {blk off : Nat} {D : Array α} (S : SWK enc k w0 blk off D W) (hblk : blk < w0.heap.size) (i : Nat) (hi : i < D.size) (x : α) : SWK enc k w0 blk off (D.setIfInBounds i x) (W.setCells blk (off + i * k) (enc x)) := by
 obtain ⟨n, os, rfl⟩ := S;refine ⟨n, os, ?_⟩;unfold sortWorldK;rw [setCells_grow os blk _ _ _ (by rw [size_putRowK]; exact hblk)]
 congr 1
 unfold putRowK;rw [setCells_putRow _ _ _ _ _ _ (by rw [size_flatK, hk]; exact rowK_bnd D k i hi), b4g enc k hk D i x hi]
end
end Go.Ox.Pl
namespace Go.Proofs.YtdkejfjcchlnpaaGreat
open Go.RowKit Go.Ox Go.Shelf Go.Sort Go.Ox.Gr
theorem egQ : ∀ args w, (callFunc 174 args).run Tryz.prog w = .ok (.enter 174 args) w := enters_of Tryz.func174 (by kernel_rfl) rfl
section
variable {w0 : World} {blk off : Nat} {d0 : Array Pl.Ar}
theorem a9D (R : RowK encA.enc 6 w0 blk off d0) {D : Array Pl.Ar} {W : World} (S : SWK encA.enc 6 w0 blk off D W) (hs : D.size = d0.size) (x y : Nat) (hx : x < D.size) (hy : y < D.size) (px py : Nat) (hpx : px = off + x * 6) (hpy : py = off + y * 6) :
 ∃ (kk : Nat) (cA cB : List Value), kk = 6 ∧ cA = encA.enc D[x]! ∧
  (∀ n os, Sem.run Tryz.prog (loadCellsFrom ⟨blk, px, none⟩ 0 kk #[]) (grow (W.drewN n) os) = .ok cA.toArray (grow (W.drewN n) os)) ∧
  (∀ n os, Sem.run Tryz.prog (loadCellsFrom ⟨blk, py, none⟩ 0 kk #[]) (grow (W.drewN n) os) = .ok cB.toArray (grow (W.drewN n) os)) ∧
  (∀ n os, Calls Tryz.prog 174 (#[.agg cA.toArray, .agg cB.toArray] ++ #[]) (grow (W.drewN n) os) fun e w' => e = .returned (.bool (decide (D[x]!.1 = D[y]!.1))) ∧ ∃ q os', w' = grow ((grow (W.drewN n) os).drewN q) os') := by
 subst hpx hpy;exact ⟨6, encA.enc D[x]!, encA.enc D[y]!, rfl, rfl, fun n os => S.ld R hs _ x hx n os, fun n os => S.ld R hs _ y hy n os, fun n os => a8K D[x]! D[y]! _⟩
theorem b21 (R : RowK encA.enc 6 w0 blk off d0) {D : Array Pl.Ar} {W : World} (S : SWK encA.enc 6 w0 blk off D W) (hs : D.size = d0.size) (x i : Nat) (hx : x < D.size) (hi : i < D.size) (px pi : Nat) (hpx : px = off + x * 6) (hpi : pi = off + i * 6) :
 ∃ (kk : Nat) (cA : List Value), kk = 6 ∧ cA.length = kk ∧
  Sem.run Tryz.prog (loadCellsFrom ⟨blk, px, none⟩ 0 kk #[]) W = .ok cA.toArray W ∧
  Sem.run Tryz.prog (storeCells ⟨blk, pi, none⟩ cA 0) W = .ok () (W.setCells blk pi cA) ∧ SWK encA.enc 6 w0 blk off (D.setIfInBounds i D[x]!) (W.setCells blk pi cA) := by
 subst hpx hpi;exact ⟨6, encA.enc D[x]!, rfl, rfl, S.load R hs _ x hx, stores_of_holds _ (S.holds R.hblk R.hH hs) (i * 6) _ (by rw [encA.len, size_flatK]; show i * 6 + 6 <= D.size * 6; omega) (encA.one _), Pl.b6f encA.len S R.hblk i hi _⟩
end
structure CmpI (w0 : World) (g : Nat) (l : List Pl.Ar) (i j : Nat) (D : Array Pl.Ar) (W : World) : Prop where
 s : SWK encA.enc 6 w0 g 0 D W
 z : D.size = l.length
 ij : i < j
 jn : j <= l.length
 hd : D.toList.take i = Pl.dd (l.take j)
 il : (Pl.dd (l.take j)).length = i
 tl : ∀ t, j - 1 <= t -> D[t]! = l[t]!
set_option maxRecDepth 1000000 in
theorem a8L (g cap base : Nat) (l : List Pl.Ar) (w : World) (hown : OE 144 base w (.slice (some ⟨g, 0, none⟩) l.length cap) l) (hl : l.length <= 1000000) :
 Calls Tryz.prog 173 #[.slice (some ⟨g, 0, none⟩) l.length cap, .func (.func 174) #[] #[]] w fun e w' => ∃ v', e = .returned v' ∧ OE 144 base w' v' (Pl.dd l) ∧ w.grownBy w' (some g) := by
 have how : w.ownsRow base 144 6 (.slice (some ⟨g, 0, none⟩) l.length cap) l.length (l.flatMap encA.enc) := hown.own;have hH := a1b (enc := encA.enc) encA.len encA.pos how;have HR := hid (rowA hH (how.lt g rfl).2);have HS := hid (SWK.start hH);have HOWN := hid hown;have HO := hid how;obtain ⟨n, hn⟩ : ∃ n, n = l.length := ⟨_, rfl⟩
 have hcap : n <= cap := by
  rcases hown.open_ with ⟨h, _⟩ | ⟨b, cap', cur, he, _, _, hnc, _⟩
  . cases h
  injection he with e1 e2 e3; omega
 have hn9 : (n : Int) <= 1000000 := by omega
 have HN := hid (show n = l.length ∧ n <= 1000000 ∧ n <= cap from ⟨hn, by omega, hcap⟩)
 rw [<- hn];have HA0 := hid (show l.toArray.size = n by simp [hn])
 have HLA := hid (show ∀ t, l.toArray[t]! = l[t]! from fun t => Pl.b20 l t)
 clear how hH hown hl hn hcap
 go_enter Tryz.func173, Tryz.ntmps173
 by_cases h2 : n < 2
 . have g1 : (n : Int) < 2 := by omega
   have HD := hid (Pl.b4a (l := l) (by have := HN.o; omega))
   clear h2
   go_wp2
   go_ret
   exact ⟨_, rfl, by rw [HD.o, HN.o.1]; exact HOWN.o, World.grownBy.refl _ _⟩
 have g1 : ¬ (n : Int) < 2 := by omega
 have HN2 := hid h2;clear h2
 go_wp2
 clear g1
 go_loopg [5] n (fun gg kv wr => ∃ k : Nat, kv = .int .i64 (k : Int) ∧ 0 < k ∧ k <= n ∧ n - k <= gg ∧ Pl.dd (l.take k) = l.take k ∧ SWK encA.enc 6 w g 0 l.toArray wr)
 case atStart => exact ⟨1, rfl, by omega, by have := HN2.o; omega, by omega, Pl.dd_one (by have := HN2.o; have := HN.o; omega), HS.o⟩
 case round =>
 obtain ⟨k, rfl, hk0, hkn, hg, hdd, hx⟩ := hrel;have HK := hid (show 0 < k ∧ k <= n ∧ n - k <= gk from ⟨hk0, hkn, hg⟩);have HDD := hid hdd;have HX := hid hx;clear hk0 hkn hdd hx hg
 by_cases hlt : k < n
 . have g1 : (k : Int) < (n : Int) := by omega
   have HLT := hid hlt;have hkl : k < l.length := by have := HN.o; omega
   have hkp : k - 1 < l.length := by have := HN.o; omega
   have HSN := hid (Pl.b1U (l := l) (j := k) HK.o.1 hkl);have HKT := hid (List.take_succ_eq_append_getElem (l := l) (i := k) (by have := HN.o; omega))
   obtain ⟨kk, hkk⟩ : ∃ kk, k = kk + 1 := ⟨k - 1, by have := HK.o; omega⟩
   have q1 : ((k : Int) - 1) = (kk : Int) := by omega
   have q2 : IntKind.i64.wrap (kk : Int) = (kk : Int) := IntWalk.i64_in _ (by omega)
   have z2 : (kk : Int) < (n : Int) := by omega
   have hi9 : (k : Int) + 1 <= 1000000000 := by omega
   obtain ⟨k6, cA, cB, hk6, -, l1, l2, hcg⟩ := a9D HR.o HX.o rfl k kk (by rw [HA0.o]; omega) (by rw [HA0.o]; omega) (k * 6) (kk * 6) (by omega) (by omega)
   obtain ⟨r, hr⟩ : ∃ r, r = decide (l.toArray[k]!.1 = l.toArray[kk]!.1) := ⟨_, rfl⟩;rw [<- hr] at hcg
   have HRR := hid (show r = true ↔ (l[k]'hkl).1 = (l[k - 1]'hkp).1 from by
    rw [hr, decide_eq_true_eq, HLA.o, HLA.o, getElem!_pos l k (by have := HN.o; omega), getElem!_pos l kk (by have := HN.o; omega)]
    have : k - 1 = kk := by omega
    simp only [this])
   have mixed := a4A;have eg := egQ;clear hr hlt hkk
   go_upto_region 6 with fail
   obtain ⟨T, hT⟩ : ∃ T, T = 144 := ⟨_, rfl⟩;rw [<- hT];have aT : ∀ w, (isAgg T).run Tryz.prog w = .ok true w := by rw [hT]; exact Tryz.isAgg144
   have zT : ∀ w, (Go.sizeOf T).run Tryz.prog w = .ok k6 w := by rw [hT, hk6]; exact Tryz.sizeOf144
   clear hT hk6
   cases r with
   | false =>
    go_wp2_with fail
    go_quiet_grown (first | (go_at_fn 174; refine Calls.grown_of (hcg _ _)))
    have HX2 := hid (HX.o.grown nq osq);clear q1 q2 l1 l2 hcg;generalize grow (wr.drewN nq) osq = w9 at *
    go_wp2
    go_roundg (n - (k + 1))
    case measure => have h1 := HK.o; have h2 := HLT.o; omega
    case rel => exact ⟨k + 1, by first | rfl | go_num, by omega, HLT.o, Nat.le_refl _, by rw [HSN.o, HKT.o, HDD.o, if_neg (fun h => by have := HRR.o.2 h; cases this)], HX2.o⟩
   | true =>
   go_wp2_with fail
   go_quiet_grown (first | (go_at_fn 174; refine Calls.grown_of (hcg _ _)))
   have HX2 := hid (HX.o.grown nq osq);clear q1 q2 l1 l2 hcg;generalize grow (wr.drewN nq) osq = w9 at *
   have HI0 := hid (show CmpI w g l k (k + 1) l.toArray w9 from by
    have h1 := HLT.o;have h2 := HN.o;have h3 : Pl.dd (l.take (k + 1)) = l.take k := by rw [HSN.o, HDD.o, if_pos (HRR.o.1 (by first | rfl | trivial)), List.append_nil]
    exact ⟨HX2.o, by simp, by omega, by omega, by rw [h3], by rw [h3, List.length_take]; omega, fun t _ => HLA.o t⟩)
   have hlo := fun w => a5a a5R (b := g) (n := n) (c := cap) (k := k) HLT.o HN.o.2.2 w
   obtain ⟨m, hm⟩ : ∃ m, m = n - k := ⟨_, rfl⟩;rw [<- hm] at hlo;have HM := hid hm;clear hm g1
   go_wp2
   clear hlo
   go_loopg [5, 7] m (fun gg iv jv wr => ∃ (i j2 : Nat) (D : Array Pl.Ar), iv = .int .i64 (i : Int) ∧ jv = .int .i64 (j2 : Int) ∧ 0 < j2 ∧ j2 <= m ∧ m - j2 <= gg ∧ CmpI w g l i (k + j2) D wr)
   case atStart => exact ⟨k, 1, l.toArray, rfl, rfl, by omega, by have h1 := HLT.o; have h2 := HM.o; omega, by omega, HI0.o⟩
   case round =>
   obtain ⟨i, j2, D, rfl, rfl, hj0, hjm, hg, hI⟩ := hrel;have HJ := hid (show 0 < j2 ∧ j2 <= m ∧ m - j2 <= gk from ⟨hj0, hjm, hg⟩);have HI := hid hI;clear hj0 hjm hg hI HI0;have hk9 := HLT.o;have hm9 := HM.o;have hn99 := HN.o
   by_cases hlt : j2 < m
   . have g1 : (j2 : Int) < (m : Int) := by omega
     have HL2 := hid hlt;have hL9 : k + j2 < l.length := by omega
     have hL8 : k + j2 - 1 < l.length := by omega
     have hK9 : 0 < k + j2 := by have := HK.o; omega
     have HSN := hid (Pl.b1U (l := l) (j := k + j2) hK9 hL9);have HEX := hid (show D[k + j2]! = l[k + j2]'hL9 from by rw [HI.o.tl _ (by omega), getElem!_pos l (k + j2) hL9])
     obtain ⟨jj, hjj⟩ : ∃ jj, j2 = jj + 1 := ⟨j2 - 1, by have := HJ.o; omega⟩
     have q1 : ((j2 : Int) - 1) = (jj : Int) := by omega
     have q2 : IntKind.i64.wrap (jj : Int) = (jj : Int) := IntWalk.i64_in _ (by omega)
     have z2 : (jj : Int) < (m : Int) := by omega
     have hi9 : (j2 : Int) + 1 <= 1000000000 := by omega
     have hz9 := HI.o.z;have hij9 := HI.o.ij;have hi10 : (i : Int) + 1 <= 1000000000 := by omega
     have z3 : (i : Int) < (n : Int) := by omega
     obtain ⟨k6, cA, cB, hk6, hcA, l1, l2, hcg⟩ := a9D HR.o HI.o.s (by rw [hz9, HA0.o]; omega) (k + j2) (k + jj) (by omega) (by omega) (k * 6 + j2 * 6) (k * 6 + jj * 6) (by omega) (by omega)
     obtain ⟨r, hr⟩ : ∃ r, r = decide (D[k + j2]!.1 = D[k + jj]!.1) := ⟨_, rfl⟩;rw [<- hr] at hcg
     have HRR := hid (show r = true ↔ (l[k + j2]'hL9).1 = (l[k + j2 - 1]'hL8).1 from by
      rw [hr, decide_eq_true_eq, HI.o.tl (k + j2) (by omega), HI.o.tl (k + jj) (by omega), getElem!_pos l (k + j2) (by omega), getElem!_pos l (k + jj) (by omega)]
      have : k + j2 - 1 = k + jj := by omega
      simp only [this])
     have mixed := a4A;have eg := egQ;have HJJ := hid (show j2 = jj + 1 from hjj);have HZ9 := hid (show D.size = n from by omega)
     clear hr hlt hjj hk9 hm9 hn99 hz9 hij9 hcA
     go_upto_region 11 with fail
     obtain ⟨T, hT⟩ : ∃ T, T = 144 := ⟨_, rfl⟩;rw [show Op.load 144 = Op.load T by rw [hT]]
     have aT : ∀ w, (isAgg T).run Tryz.prog w = .ok true w := by rw [hT]; exact Tryz.isAgg144
     have zT : ∀ w, (Go.sizeOf T).run Tryz.prog w = .ok k6 w := by rw [hT, hk6]; exact Tryz.sizeOf144
     clear hT hk6
     cases r with
     | true =>
      go_wp2_with fail
      go_quiet_grown (first | (go_at_fn 174; refine Calls.grown_of (hcg _ _)))
      have HX3 := hid (HI.o.s.grown nq osq);clear q1 q2 l1 l2 hcg;generalize grow (wr.drewN nq) osq = w9 at *
      have HI2 := hid (show CmpI w g l i (k + (j2 + 1)) D w9 from by
       have h1 := HL2.o;have h2 := HM.o;have h3 := HN.o;have h4 : Pl.dd (l.take (k + (j2 + 1))) = Pl.dd (l.take (k + j2)) := by rw [show k + (j2 + 1) = k + j2 + 1 by omega, HSN.o, if_pos (HRR.o.1 (by first | rfl | trivial)), List.append_nil]
       exact ⟨HX3.o, HI.o.z, by have := HI.o.ij; omega, by omega, by rw [h4]; exact HI.o.hd, by rw [h4]; exact HI.o.il, fun t ht => HI.o.tl t (by omega)⟩)
      go_wp2
      go_roundg (m - (j2 + 1))
      case measure => have h1 := HJ.o; have h2 := HL2.o; omega
      case rel => exact ⟨i, j2 + 1, D, rfl, by first | rfl | go_num, by omega, HL2.o, Nat.le_refl _, HI2.o⟩
     | false =>
     go_wp2_with fail
     go_quiet_grown (first | (go_at_fn 174; refine Calls.grown_of (hcg _ _)))
     have HX3 := hid (HI.o.s.grown nq osq);clear q1 q2 l1 l2 hcg aT zT;generalize grow (wr.drewN nq) osq = w9 at *;obtain ⟨k6, cA, hk6, lA, l1, s1, sw⟩ := b21 HR.o HX3.o (by rw [HZ9.o, HA0.o]) (k + j2) i (by have h1 := HL2.o; have h2 := HM.o; have h3 := HZ9.o; omega) (by have h1 := HI.o.ij; have h4 := HI.o.jn; have h2 := HN.o; have h3 := HZ9.o; omega) (k * 6 + j2 * 6) (i * 6) (by omega) (by omega)
     have HSW := hid sw
     have HI2 := hid (show CmpI w g l (i + 1) (k + (j2 + 1)) (D.setIfInBounds i D[k + j2]!) (w9.setCells g (i * 6) cA) from by
      have h1 := HL2.o;have h2 := HM.o;have h3 := HN.o;have h6 := HI.o.ij;have h7 := HI.o.z;have h4 : Pl.dd (l.take (k + (j2 + 1))) = Pl.dd (l.take (k + j2)) ++ [D[k + j2]!] := by rw [show k + (j2 + 1) = k + j2 + 1 by omega, HSN.o, if_neg (fun h => by have := HRR.o.2 h; cases this), HEX.o]
      refine ⟨sw, by simp [h7], by omega, by omega, ?_, by rw [h4, List.length_append, HI.o.il]; rfl, fun t ht => ?_⟩
      . rw [h4, <- HI.o.hd, Array.toList_setIfInBounds, List.take_succ_eq_append_getElem (by simp; omega), List.take_set_of_le (Nat.le_refl _)]
        simp
      rw [<- HI.o.tl t (by omega)]
      by_cases q : t < D.size
      . rw [getElem!_pos _ t (by simpa using q), getElem!_pos D t q, Array.getElem_setIfInBounds, if_neg (by omega)]
      rw [getElem!_neg _ t (by simpa using q), getElem!_neg D t q])
     clear sw
     go_upto_region 12 with fail
     obtain ⟨T, hT⟩ : ∃ T, T = 144 := ⟨_, rfl⟩;rw [<- hT];have aT : ∀ w, (isAgg T).run Tryz.prog w = .ok true w := by rw [hT]; exact Tryz.isAgg144
     have zT : ∀ w, (Go.sizeOf T).run Tryz.prog w = .ok k6 w := by rw [hT, hk6]; exact Tryz.sizeOf144
     clear hT hk6
     go_wp2
     go_roundg (m - (j2 + 1))
     case measure => have h1 := HJ.o; have h2 := HL2.o; omega
     case rel => exact ⟨i + 1, j2 + 1, _, by first | rfl | go_num, by first | rfl | go_num, by omega, HL2.o, Nat.le_refl _, HI2.o⟩
   have g1 : ¬ (j2 : Int) < (m : Int) := by omega
   have hij9 := HI.o.ij;have hjn9 := HI.o.jn;have HI3 := hid (show CmpI w g l i n D wr from by have h := HI.o; rw [show k + j2 = n by omega] at h; exact h)
   have hlo := fun w => a5a a5R (b := g) (n := n) (c := cap) (k := i) (by omega) HN.o.2.2 w
   have hhi := fun w => a7z a5R (b := g) (n := n) (c := cap) (k := i) (by omega) w
   obtain ⟨nn, os, hwr⟩ := HI.o.s;obtain ⟨p1, p2⟩ := a1K (enc := encA.enc) encA.len encA.pos HO.o HI.o.z hwr
   have hoe : OE 144 base wr (.slice (some ⟨g, 0, none⟩) n cap) D.toList := by
    unfold OE;rw [show D.toList.length = l.length by simpa using HI.o.z, HN.o.1]
    exact p1
   rcases hoe.open_ with ⟨h, _⟩ | ⟨b', cap', cur, he, hbb, hblk, hnc, hcm, hcs, hhas⟩
   . cases h
   injection he with e1 e2 e3
   injection e1 with e1
   injection e1 with e1
   subst e1 e3;have hz9 := HI.o.z;have hdl : D.toList.length = n := by simp; omega
   obtain ⟨zs, hzs, hcl⟩ := a63 a5R (by decide) hblk (o := i * 6) (n := n - i) (c := cap - i) (by omega) (by rw [hcs]; show i * 6 + (n - i) * 6 <= cap * 6; omega)
   have HZS := hid hzs;have HBLK := hid hblk;have HP2 := hid p2
   have HF := hid (show OE 144 base (wr.setCells g (i * 6) zs) (.slice (some ⟨g, 0, none⟩) i cap) (Pl.dd l) from by
    have h5 := Blk.setCells (w := wr) zs (i * 6) hblk
    have ht : Has cur 0 (eV (D.toList.take i)) := by
     rw [<- a8x];intro j u hu;rw [List.getElem?_take] at hu
     split at hu
     . exact hhas j u hu
     cases hu
    have h9 := HI3.o.hd;have h8 := HI3.o.il;rw [HN.o.1, List.take_length] at h9 h8;rw [h9] at ht;have h2 := ht.o (q := i * 6) (ds := zs) (.inl (by rw [a52, h8]; show 0 + i * 6 <= _; omega))
    exact OE.shut h8 hbb h5 (by omega) hcm (by rw [a3z]; exact hcs) h2)
   have HG := hid (show w.grownBy (wr.setCells g (i * 6) zs) (some g) from by
    have hx5 : ExtQ (fun k => k = g) wr (wr.setCells g (i * 6) zs) := ExtQ.setCells (Q := fun k => k = g) (g := g) (ExtQ.refl _ _) rfl zs (i * 6)
    exact ⟨hx5.os.trans p2.os, hx5.tape.trans p2.tape, hx5.output.trans p2.output, Nat.le_trans p2.size hx5.size, fun q hq hne => (hx5.block q (Nat.lt_of_lt_of_le hq p2.size) (fun e => hne (by rw [e]))).trans (p2.block q hq hne)⟩)
   clear hzs hblk hoe p1 p2 hwr hnc hcm hcs hhas hz9 hdl hij9 hjn9 hlt hk9 hm9 hn99
   try clear e2
   go_wp2
   go_ret
   exact ⟨_, rfl, HF.o, HG.o⟩
 have g1 : ¬ (k : Int) < (n : Int) := by omega
 have HD := hid (show Pl.dd l = l from by
  have h := HDD.o;rw [show k = l.length by have h1 := HK.o; have h2 := HN.o; omega, List.take_length] at h
  exact h)
 obtain ⟨nn, os, hwr⟩ := HX.o;obtain ⟨p1, p2⟩ := a1K (enc := encA.enc) encA.len encA.pos HO.o (by simp) hwr
 have HF := hid (show OE 144 base wr (.slice (some ⟨g, 0, none⟩) n cap) (Pl.dd l) from by
  rw [HD.o];unfold OE;rw [HN.o.1];have h := p1;rw [show l.toArray.toList = l by simp] at h
  exact h)
 have HG := hid p2;clear p1 p2 hwr hlt
 go_wp2
 go_ret
 exact ⟨_, rfl, HF.o, HG.o⟩
end Go.Proofs.YtdkejfjcchlnpaaGreat
namespace Go.Ox.Pl
open Go.Sort
def ltK (a b : Mom.M × Mom.M) : Prop := Mom.lt a.1 b.1 ∨ (a.1 = b.1 ∧ Mom.lt a.2 b.2)
theorem a4f (a : Mom.M × Mom.M) : ¬ ltK a a := by
 unfold ltK Mom.lt; omega
theorem a7Q {a b c : Mom.M × Mom.M} (h1 : ltK a b) (h2 : ltK b c) : ltK a c := by
 obtain ⟨⟨a1, a2⟩, a3, a4⟩ := a;obtain ⟨⟨b1, b2⟩, b3, b4⟩ := b;obtain ⟨⟨c1, c2⟩, c3, c4⟩ := c;unfold ltK Mom.lt at *;simp only [Prod.mk.injEq] at *;omega
theorem b4h (a b : Mom.M × Mom.M) : ltK a b ∨ a = b ∨ ltK b a := by
 obtain ⟨⟨a1, a2⟩, a3, a4⟩ := a;obtain ⟨⟨b1, b2⟩, b3, b4⟩ := b;unfold ltK Mom.lt;simp only [Prod.mk.injEq];omega
theorem b22 : ∀ (l r : List Ar), l.Pairwise (fun a b => ltK a.1 b.1) -> r.Pairwise (fun a b => ltK a.1 b.1) -> (∀ x, x ∈ l ↔ x ∈ r) -> l = r
 | [], [], _, _, _ => rfl
 | [], y :: r, _, _, h => by have := (h y).2 (by simp); simp at this
 | x :: l, [], _, _, h => by have := (h x).1 (by simp); simp at this
 | x :: l, y :: r, hl, hr, h => by
  rw [List.pairwise_cons] at hl hr
  have hxy : x = y := by
   have h1 := (h x).1 (by simp)
   have h2 := (h y).2 (by simp)
   rcases List.mem_cons.1 h1 with e | e
   . exact e
   . rcases List.mem_cons.1 h2 with e2 | e2
     . exact e2.symm
     . exact absurd (a7Q (hr.1 x e) (hl.1 y e2)) (a4f _)
  subst hxy;rw [b22 l r hl.2 hr.2 (fun z => ?_)]
  have hz := h z;constructor
  . intro q
    rcases List.mem_cons.1 (hz.1 (List.mem_cons_of_mem _ q)) with e | e
    . subst e; exact absurd (hl.1 _ q) (a4f _)
    . exact e
  . intro q
    rcases List.mem_cons.1 (hz.2 (List.mem_cons_of_mem _ q)) with e | e
    . subst e; exact absurd (hr.1 _ q) (a4f _)
    . exact e
abbrev b6g (l : List Ar) : Prop := l.Pairwise fun a b => ¬ ltK b.1 a.1
theorem a6Z : ∀ (r : List Ar) (x y : Ar), y ∈ ddF x r -> y ∈ r
 | [], x, y, h => by simp [ddF] at h
 | z :: r, x, y, h => by
  unfold ddF at h
  split at h
  . exact List.mem_cons_of_mem _ (a6Z r z y h)
  . rcases List.mem_cons.1 h with e | e
    . subst e; simp
    . exact List.mem_cons_of_mem _ (a6Z r z y e)
theorem b23 : ∀ (r : List Ar) (x : Ar), b6g (x :: r) -> (∀ y ∈ ddF x r, ltK x.1 y.1) ∧ (ddF x r).Pairwise (fun a b => ltK a.1 b.1)
 | [], x, h => by simp [ddF]
 | z :: r, x, h => by
  unfold b6g at h;rw [List.pairwise_cons, List.pairwise_cons] at h;obtain ⟨h1, h2, h3⟩ := h;obtain ⟨k1, k2⟩ := b23 r z (List.pairwise_cons.2 ⟨h2, h3⟩);unfold ddF
  by_cases q : z.1 = x.1
  . rw [if_pos q, <- q]; exact ⟨k1, k2⟩
  . rw [if_neg q]
    have hxz : ltK x.1 z.1 := by
     rcases b4h x.1 z.1 with e | e | e
     . exact e
     . exact absurd e.symm q
     . exact absurd e (h1 z (by simp))
    refine ⟨fun y hy => ?_, List.pairwise_cons.2 ⟨k1, k2⟩⟩
    rcases List.mem_cons.1 hy with e | e
    . subst e; exact hxz
    . exact a7Q hxz (k1 y e)
theorem a8M : ∀ (r : List Ar) (x y : Ar), y ∈ r -> y.1 = x.1 ∨ ∃ z ∈ ddF x r, z.1 = y.1
 | [], x, y, h => by simp at h
 | z :: r, x, y, h => by
  unfold ddF
  by_cases q : z.1 = x.1
  . rw [if_pos q]
    rcases List.mem_cons.1 h with e | e
    . subst e; exact .inl q
    . rcases a8M r z y e with k | k
      . exact .inl (k.trans q)
      . exact .inr k
  . rw [if_neg q]
    rcases List.mem_cons.1 h with e | e
    . subst e; exact .inr ⟨y, by simp, rfl⟩
    . rcases a8M r z y e with k | ⟨t, k1, k2⟩
      . exact .inr ⟨z, by simp, k.symm⟩
      . exact .inr ⟨t, List.mem_cons_of_mem _ k1, k2⟩
theorem dd_asc {l : List Ar} (h : b6g l) : (dd l).Pairwise (fun a b => ltK a.1 b.1) := by
 cases l with
 | nil => exact List.Pairwise.nil
 | cons x r => exact List.pairwise_cons.2 (b23 r x h)
theorem dd_mem {l : List Ar} (hu : ∀ a ∈ l, ∀ b ∈ l, a.1 = b.1 -> a = b) (y : Ar) : y ∈ dd l ↔ y ∈ l := by
 cases l with
 | nil => rfl
 | cons x r =>
 unfold dd;constructor
 . intro h
   rcases List.mem_cons.1 h with e | e
   . subst e; simp
   exact List.mem_cons_of_mem _ (a6Z r x y e)
 intro h
 rcases List.mem_cons.1 h with e | e
 . subst e; simp
 rcases a8M r x y e with k | ⟨z, k1, k2⟩
 . have := hu y (List.mem_cons_of_mem _ e) x (by simp) k
   subst this; simp
 have := hu z (List.mem_cons_of_mem _ (a6Z r x z k1)) y (List.mem_cons_of_mem _ e) k2;subst this; exact List.mem_cons_of_mem _ k1
theorem dd_is {a0 s c : List Ar} (hp : s.Perm a0) (hs : b6g s) (hu : ∀ a ∈ a0, ∀ b ∈ a0, a.1 = b.1 -> a = b) (hc : c.Pairwise (fun a b => ltK a.1 b.1)) (hm : ∀ x, x ∈ a0 ↔ x ∈ c) : dd s = c :=
 b22 _ _ (dd_asc hs) hc fun x => by
  rw [dd_mem (fun a ha b hb => hu a (hp.mem_iff.1 ha) b (hp.mem_iff.1 hb)), hp.mem_iff, hm]
end Go.Ox.Pl
namespace Go.Proofs.YtdkejfjcchlnpaaGreat
open Go.RowKit Go.Ox Go.Ox.Gr
attribute [local irreducible] RE OE a00
def a29 (p : Pl) : List Pl -> Nat -> Int
 | [], _ => -1
 | x :: l, i => if x = p then (i : Int) else a29 p l (i + 1)
theorem a5o {p x : Pl} {l : List Pl} {i : Nat} (h : x = p) : a29 p (x :: l) i = (i : Int) := if_pos h
theorem a2U {p x : Pl} {l : List Pl} {i : Nat} (h : x ≠ p) : a29 p (x :: l) i = a29 p l (i + 1) := if_neg h
theorem a6k {p : Pl} : ∀ {l : List Pl} {i k : Nat} (hk : k < l.length), p ∉ l.take k -> l[k] = p -> a29 p l i = ((i + k : Nat) : Int)
 | [], _, _, hk, _, _ => absurd hk (Nat.not_lt_zero _)
 | x :: l, i, 0, _, _, h => by rw [a5o (by simpa using h)]; simp
 | x :: l, i, k + 1, hk, hn, h => by
  rw [List.take_succ_cons, List.mem_cons, not_or] at hn;rw [a2U (fun e => hn.1 e.symm), a6k (k := k) (by simpa using hk) hn.2 (by simpa using h)]
  congr 1
  omega
theorem a2V {p : Pl} : ∀ {l : List Pl} {i : Nat}, p ∉ l -> a29 p l i = -1
 | [], _, _ => rfl
 | x :: l, i, hn => by
  rw [List.mem_cons, not_or] at hn;rw [a2U (fun e => hn.1 e.symm), a2V hn.2]
end Go.Proofs.YtdkejfjcchlnpaaGreat
namespace Go.Proofs.YtdkejfjcchlnpaaGreat
open Go.RowKit Go.Ox Go.Ox.Gr
abbrev Po := Pl × Int
instance encPo : Enc Po where
 k := 3
 enc x := [.int .i64 x.1.1, .int .i64 x.1.2, .int .i64 x.2]
 len _ := rfl
 pos := by omega
 one x u hu := by simp at hu; rcases hu with rfl | rfl | rfl <;> rfl
attribute [local irreducible] RE OE a00
end Go.Proofs.YtdkejfjcchlnpaaGreat
namespace Go.Ox.Gr
def nmN (name : Int) (p : Int × Int) (ins : List Int) : List ((Int × Int) × Int) := ins.zipIdx.filterMap fun x => if x.1 = name then some (p, (x.2 : Int)) else none
theorem b6h (name : Int) (p : Int × Int) (ins : List Int) {k : Nat} (h : k < ins.length) : nmN name p (ins.take (k + 1)) = nmN name p (ins.take k) ++ (if ins[k] = name then [(p, (k : Int))] else []) := by
 unfold nmN;rw [List.take_succ_eq_append_getElem h, List.zipIdx_append, List.filterMap_append]
 congr 1
 have : (ins.take k).length = k := by rw [List.length_take]; omega
 rw [this]
 by_cases q : ins[k] = name <;> simp [q]
theorem a5p (name : Int) (p : Int × Int) (ins : List Int) : (nmN name p ins).length <= ins.length := by
 unfold nmN;refine Nat.le_trans (List.length_filterMap_le _ _) (by simp)
def a1g (name : Int) (f : Nat -> Int × Int) : List Nd -> Nat -> List ((Int × Int) × Int)
 | [], _ => []
 | n :: l, i => nmN name (f i) n.ins ++ a1g name f l (i + 1)
def a0N (name : Int) (f : Nat -> Int × Int) (l : List Nd) : List ((Int × Int) × Int) := a1g name f l 0
theorem a6l (name : Int) (f : Nat -> Int × Int) : ∀ (l r : List Nd) (i : Nat), a1g name f (l ++ r) i = a1g name f l i ++ a1g name f r (i + l.length)
 | [], r, i => by simp [a1g]
 | n :: l, r, i => by
  simp only [List.cons_append, a1g, List.length_cons, a6l name f l r (i + 1), List.append_assoc];rw [show i + 1 + l.length = i + (l.length + 1) by omega]
theorem b4i (name : Int) (f : Nat -> Int × Int) (l : List Nd) {k : Nat} (h : k < l.length) : a0N name f (l.take (k + 1)) = a0N name f (l.take k) ++ nmN name (f k) l[k].ins := by
 unfold a0N;rw [List.take_succ_eq_append_getElem h, a6l, List.length_take, Nat.min_eq_left (by omega), Nat.zero_add]
 simp [a1g]
theorem a6m (name : Int) (f : Nat -> Int × Int) : ∀ (l : List Nd) (i : Nat), (∀ n ∈ l, n.ins.length <= 100) -> (a1g name f l i).length <= l.length * 100
 | [], _, _ => by simp [a1g]
 | n :: l, i, h => by
  have h1 := a6m name f l (i + 1) fun m hm => h m (List.mem_cons_of_mem _ hm)
  have h2 := h n List.mem_cons_self;have h3 := a5p name (f i) n.ins;unfold a1g;rw [List.length_append, List.length_cons];omega
theorem a3d (name : Int) (f : Nat -> Int × Int) (l : List Nd) (k : Nat) (h : ∀ n ∈ l, n.ins.length <= 100) (hl : l.length <= 100) : (a0N name f (l.take k)).length <= 10000 := by
 have := a6m name f (l.take k) 0 fun n hn => h n (List.mem_of_mem_take hn)
 rw [List.length_take] at this;unfold a0N;omega
end Go.Ox.Gr
namespace Go.Proofs.YtdkejfjcchlnpaaGreat
open Go.RowKit Go.Ox Go.Ox.Gr
attribute [local irreducible] RE OE a00
theorem a7R : Elem Tryz.prog 207 210 (.agg #[.int .i64 0, .int .i64 0, .int .i64 0]) 3 24 := Elem.mk' Tryz.underlying207 (by kernel_rfl) rfl (by omega)
theorem a7S (name : Int) (f : Nat -> Pl) (g : Nat) (lb : Array Value) (eg : ∀ args w, (callFunc g args).run Tryz.prog w = .ok (.enter g args) w) (d : Nat) (v : Value) (l : List Nd) (w : World) (hv : a00 d w v l) (hl : l.length <= 100) (hil : ∀ n ∈ l, n.ins.length <= 100)
 (hcl : ∀ (i : Nat) W, Ext w W -> Calls Tryz.prog g (#[.int .i64 (i : Int)] ++ lb) W fun e W' => e = .returned (plV (f i)) ∧ Ext W W') :
 Calls Tryz.prog 183 #[v, .int .i64 name, .func (.func g) #[] lb] w fun e w' => ∃ u, e = .returned u ∧ OE 210 w.heap.size w' u (a0N name f l) ∧ Ext w w' := by
 obtain ⟨A, c, rfl⟩ := hv.form;have HV := hid hv;have HL := hid hl;have HIL := hid (fun (k : Nat) (h : k < l.length) => hil l[k] (List.getElem_mem h))
 have HPL := hid (fun k => a3d name f l k hil hl)
 have HCL := hid hcl;clear hv hl hil hcl
 go_enter Tryz.func183, Tryz.ntmps183
 go_wp2
 go_loopw [7, 14] (fun o iv wr => ∃ k : Nat, k <= l.length ∧ iv = .int .i64 (k : Int) ∧ OE 210 w.heap.size wr o (a0N name f (l.take k)) ∧ Ext w wr) (fun _ iv _ => l.length - (intOf iv).toNat)
 case atStart => exact ⟨0, Nat.zero_le _, rfl, OE.a2g _ _ _, Ext.refl _⟩
 case round =>
 obtain ⟨k, hk, rfl, ho, hext⟩ := hrel;have HE := hid hext;have HO := hid ho;obtain ⟨AO, cO, hvo⟩ := ho.re.form;have hk100 : k <= 100 := by have := HL.o; omega
 by_cases hlt : k < l.length
 . have q1 : (k : Int) < (l.length : Int) := by omega
   have q0 : 0 <= (k : Int) := by omega
   have q1n : k < l.length := hlt;have HLT := hid hlt;obtain ⟨bA, oA, u, bv, rfl, e0, e1, e2, e3, e4, e5, hu, hbv⟩ := HV.o.at_ hlt;have HS := hid (b4i name f l hlt);have HIK := hid (HIL.o k hlt);have HPK1 := hid (HPL.o (k + 1));rw [HS.o] at HPK1;generalize l[k] = x at *;obtain ⟨op, ins, kind, fa, a, body⟩ := x;simp only [Nd.op, Nd.kind, Nd.fa, Nd.a, Nd.ins, Nd.body] at e0 e2 e3 e4 hu hbv;have e0 := hext.cell e0;have e1 := hext.cell e1;have e2 := hext.cell e2;have e3 := hext.cell e3;have e4 := hext.cell e4;have e5 := hext.cell e5;replace HS := hid (show a0N name f (l.take (k + 1)) = a0N name f (l.take k) ++ nmN name (f k) ins from HS.o);replace HIK := hid (show ins.length <= 100 from HIK.o);replace HPK1 := hid (show (a0N name f (l.take k) ++ nmN name (f k) ins).length <= 10000 from HPK1.o);generalize a0N name f (l.take k) = pl at *;subst hvo;have HU := hid hu;obtain ⟨Au, cu, rfl⟩ := hu.form;obtain ⟨Ab, cb, rfl⟩ := hbv.form;have hxn := (Ext.refl wr).alloc (a0m op kind fa a (.slice Au ins.length cu) (.slice Ab body.length cb));have HXN := hid (HE.o.trans hxn);have HON := hid (ho.ext hxn);obtain ⟨y0, y1, y2, y3, y4, y5⟩ := (Bx6.new wr 101 (.int .i64 op) (.slice Au ins.length cu) (.int .i64 kind) (.int .i64 fa) (.int .i64 a) (.slice Ab body.length cb)).at_;clear ho hext hlt hk hu hbv hxn
   go_upto_region 5 with fail
   clear e0 e1 e2 e3 e4 e5;generalize wr.heap.size = q at *;generalize wr.alloc (a0m op kind fa a (.slice Au ins.length cu) (.slice Ab body.length cb)) = wn at *
   go_wp2
   clear y0 y1 y2 y3 y4 y5
   go_loopw [7, 22] (fun o iv wx => ∃ j : Nat, j <= ins.length ∧ iv = .int .i64 (j : Int) ∧ OE 210 w.heap.size wx o (pl ++ nmN name (f k) (ins.take j)) ∧ Ext w wx) (fun _ iv _ => ins.length - (intOf iv).toNat)
   case atStart => exact ⟨0, Nat.zero_le _, rfl, by rw [show nmN name (f k) (ins.take 0) = [] from rfl, List.append_nil]; exact HON.o, HXN.o⟩
   case round =>
   obtain ⟨j, hj, rfl, ho, hext⟩ := hrel;rename World => wx
   have HE2 := hid hext;have HO2 := hid ho;obtain ⟨AP, cP, hvo⟩ := ho.re.form;have hj100 : j <= 100 := by have := HIK.o; omega
   by_cases hlt : j < ins.length
   . have r1 : (j : Int) < (ins.length : Int) := by omega
     have r0 : 0 <= (j : Int) := by omega
     have r1n : j < ins.length := hlt;have HJT := hid hlt;obtain ⟨bI, oI, rfl, z0⟩ := ri1 (RE.ext HU.o hext) hlt;have HSJ := hid (b6h name (f k) ins hlt);have HPJ := hid (show (pl ++ nmN name (f k) (ins.take j)).length <= 20100 by have h1 := HPK1.o; have h2 := a5p name (f k) (ins.take j); rw [List.length_append] at h1 ⊢; rw [List.length_take] at h2; omega)
     have HFK := hid (HCL.o k wx hext);generalize ins[j] = x at *;generalize f k = fp at *;obtain ⟨pa, pb⟩ := fp;clear hext hlt hj
     by_cases hq : x = name
     . rw [if_pos hq] at HSJ
       subst hq;have HAS := hid (show pl ++ nmN x (pa, pb) (ins.take (j + 1)) = (pl ++ nmN x (pa, pb) (ins.take j)) ++ [((pa, pb), (j : Int))] by rw [HSJ.o, List.append_assoc])
       generalize pl ++ nmN x (pa, pb) (ins.take j) = pj at *;subst hvo
       go_wp2_with fail
       refine HFK.o.mono ?_;rintro e w8 ⟨rfl, he8⟩;have HL1 := hid (RE.lit w8 #[.int .i64 pa, .int .i64 pb, .int .i64 (j : Int)] 210 1 [(((pa, pb), (j : Int)) : Po)] rfl (by omega) rfl)
       have HXA := hid ((Ext.refl w8).alloc (.cells #[.int .i64 pa, .int .i64 pb, .int .i64 (j : Int)] 210));have HOL := hid ((HO2.o.ext he8).ext HXA.o);have HXB := hid ((HE2.o.trans he8).trans HXA.o);clear ho he8 z0
       go_wp2_with (at_builtin; refine a07 rfl a7R _ _ _ rfl w.heap.size _ _ pj [(((pa, pb), (j : Int)) : Po)] rfl HOL.o rfl HL1.o (by have := HPJ.o; simp; omega) (by have := HPJ.o; unfold maxLen; simp; omega) HXB.o.size ?_; intro v9 w9 ho9 hg9 hat9)
       have HX9 := hid (HXB.o.grown hat9 fun g hg => (HOL.o.own.lt g hg).1)
       have HO9 := hid ho9;clear ho9 hg9 hat9
       go_wp2
       exact ⟨⟨j + 1, HJT.o, by go_num, by rw [HAS.o]; exact HO9.o, HX9.o⟩, by have := HJT.o; simp [intOf]; omega⟩
     rw [if_neg hq, List.append_nil] at HSJ;have hqb : (x == name) = false := by simpa using hq
     have HAS := hid (show pl ++ nmN name (pa, pb) (ins.take (j + 1)) = pl ++ nmN name (pa, pb) (ins.take j) by rw [HSJ.o])
     clear hq ho
     go_wp2_with fail
     exact ⟨⟨j + 1, HJT.o, by go_num, by rw [HAS.o]; exact HO2.o, HE2.o⟩, by have := HJT.o; simp [intOf]; omega⟩
   obtain rfl : j = ins.length := by omega
   have r1 : ¬ (ins.length : Int) < (ins.length : Int) := by omega
   rw [List.take_length] at HO2;clear ho hext hj hlt
   go_wp2
   exact ⟨⟨k + 1, HLT.o, by go_num, by rw [HS.o]; exact HO2.o, HE2.o⟩, by have := HLT.o; simp [intOf]; omega⟩
 obtain rfl : k = l.length := by omega
 have q1 : ¬ (l.length : Int) < (l.length : Int) := by omega
 rw [List.take_length] at HO;clear ho hext hk hlt hvo
 go_wp2
 go_ret
 exact ⟨_, rfl, HO.o, HE.o⟩
end Go.Proofs.YtdkejfjcchlnpaaGreat
namespace Go.Proofs.YtdkejfjcchlnpaaGreat
open Go.RowKit Go.Ox Go.Ox.Gr
attribute [local irreducible] RE OE a00
theorem a9E (d : Nat) (v : Value) (l : List Nd) (out : Int) (i : Nat) (j : Nat) (op kind fa a : Int) (ins : List Int) (body : List Nd) (w : World) (hv : a00 d w v l) (hok : gOk (l, out) = true) (hn : l[i]? = some (.mk op ins kind fa a body)) (mop mkind mfa ma : Int) (mins : List Int) (mbody : List Nd) (hm : body[j]? = some (.mk mop mins mkind mfa ma mbody)) :
 Calls Tryz.prog 68 #[gAg v out, plV ((i : Int), (j : Int))] w fun e w' => ∃ u, e = .returned (.tuple #[a1e mop mkind mfa ma u (.slice none 0 0), .bool true]) ∧ RE w' u mins ∧ Ext w w' := by
 obtain ⟨hi, hx⟩ := List.getElem?_eq_some_iff.1 hn;have hnd := a5k hok (List.getElem_mem hi);rw [hx] at hnd;have HND2 := hid (show ins.length <= 2 ∧ body.length <= 32 ∧ ∀ m ∈ body, m.body = [] ∧ m.ins.length <= 2 from hnd);have HXX := hid hx;clear hnd hn;obtain ⟨A, c, rfl⟩ := hv.form;have HX0 := hid ((((Ext.refl w).alloc (gCs (.slice A l.length c) out)).alloc (a2x (i : Int) (j : Int))).alloc (a0m 0 0 0 0 (.slice none 0 0) (.slice none 0 0)));have HB0 := hid (show BN3 (((w.alloc (gCs (.slice A l.length c) out)).alloc (a2x (i : Int) (j : Int))).alloc (a0m 0 0 0 0 (.slice none 0 0) (.slice none 0 0))) w.heap.size (.slice A l.length c) out (i : Int) (j : Int) from BN3.new w (.slice A l.length c) out (i : Int) (j : Int));have HCK := hid (fun w h => a0G d (.slice A l.length c) l out w h)
 rw [show gE (l, out) = 0 from if_pos hok] at HCK;have HV := hid (hv.ext HX0.o);have g0 : ¬ (i : Int) < 0 := by omega
 have g1 : ¬ (l.length : Int) <= (i : Int) := by omega
 have g1b : (i : Int) < (l.length : Int) := by omega
 have g1c : 0 <= (i : Int) := by omega
 have g1n : i < l.length := hi;have HI := hid hi;have HM := hid hm;clear hv hok hx hm
 go_enter Tryz.func68, Tryz.ntmps68
 go_upto_region 1 with fail
 obtain ⟨p, hp⟩ : ∃ p, p = w.heap.size := ⟨_, rfl⟩;rw [<- hp] at HB0 ⊢;have HP := hid hp;clear hp;generalize ((w.alloc (gCs (.slice A l.length c) out)).alloc (a2x (i : Int) (j : Int))).alloc (a0m 0 0 0 0 (.slice none 0 0) (.slice none 0 0)) = w0 at *;obtain ⟨a0, a1, a2, a3⟩ := HB0.o.cells
 go_wp2_with fail
 refine (HCK.o _ HV.o).mono ?_;rintro e w1 ⟨rfl, he1⟩;have HX1 := hid (HX0.o.trans he1);have HB1 := hid (HB0.o.ext he1);have HV1 := hid (HV.o.ext he1);clear he1 a0 a1 a2 a3;obtain ⟨a0, a1, a2, a3⟩ := HB1.o.cells;obtain ⟨bA, oA, u, bv, rfl, e0, e1, e2, e3, e4, e5, hu, hbv⟩ := HV1.o.at_ HI.o;have hj1 : ¬ (j : Int) < -1 := by omega
 have hjm : ((j : Int) == -1) = false := by simp <;> omega
 rw [HXX.o] at e0 e2 e3 e4 hu hbv;simp only [Nd.op, Nd.kind, Nd.fa, Nd.a, Nd.ins, Nd.body] at e0 e2 e3 e4 hu hbv;obtain ⟨Au, cu, rfl⟩ := hu.form;obtain ⟨Ab, cb, rfl⟩ := hbv.form;have hxn := (Ext.refl w1).alloc (a0m op kind fa a (.slice Au ins.length cu) (.slice Ab body.length cb));have HX2 := hid (HX1.o.trans hxn);have HB2 := hid (HB1.o.ext hxn);have HN2 := hid (Bx6.new w1 101 (.int .i64 op) (.slice Au ins.length cu) (.int .i64 kind) (.int .i64 fa) (.int .i64 a) (.slice Ab body.length cb));have HU2 := hid (hu.ext hxn);have HW2 := hid (hbv.ext hxn);have HQ := hid (show p + 1 + 1 < w1.heap.size from HB1.o.r.b.lt);clear hxn hu hbv HV HV1
 go_upto_region 4 with fail
 clear e0 e1 e2 e3 e4 e5 a0 a1 a2 a3;generalize w1.heap.size = q at *;generalize w1.alloc (a0m op kind fa a (.slice Au ins.length cu) (.slice Ab body.length cb)) = w2 at *;obtain ⟨a0, a1, a2, a3⟩ := HB2.o.cells;obtain ⟨n0, n1, n2, n3, n4, n5⟩ := HN2.o.at_;obtain ⟨hjl, hmx⟩ := List.getElem?_eq_some_iff.1 HM.o;have hjn : j < body.length := hjl;have hjb : (j : Int) < (body.length : Int) := by omega
 have hjb2 : ¬ (body.length : Int) <= (j : Int) := by omega
 have hj0 : 0 <= (j : Int) := by omega
 obtain ⟨bB, oB, mu, mb, rfl, m0, m1, m2, m3, m4, m5, hmu, hmb⟩ := HW2.o.at_ hjl;obtain ⟨hz, hmi⟩ := HND2.o.2.2 body[j] (List.getElem_mem hjl);rw [hmx] at m0 m2 m3 m4 hmu hmb hz hmi;simp only [Nd.op, Nd.kind, Nd.fa, Nd.a, Nd.ins, Nd.body] at m0 m2 m3 m4 hmu hmb hz hmi;subst hz;have HC := hid (a6i mop mkind mfa ma mu mb mins _ w2 hmu hmb (by omega))
 obtain ⟨Am, cm, rfl⟩ := hmu.form;obtain ⟨Ax, cx, rfl⟩ : ∃ A c, mb = .slice A 0 c := hmb.form;clear hmu hmb hmx hjl
 go_wp2_with fail
 refine HC.o.mono ?_;rintro e w3 ⟨u', rfl, ho3, he3⟩;have HE3 := hid he3;have HO3 := hid ho3;have HQ2 := hid HB2.o.r.b.lt;obtain ⟨A3, c3, rfl⟩ := ho3.re.form;clear he3 ho3 m0 m1 m2 m3 m4 m5;have HB3 := hid (HB2.o.ext HE3.o);clear a0 a1 a2 a3 n0 n1 n2 n3 n4 n5;obtain ⟨⟨r0, r1, r2, r3, r4, r5⟩, f0, f1, f2, f3, f4, f5⟩ := HB3.o.a4C;have HF := hid (HB3.o.r.fill (.int .i64 mop) (.slice A3 mins.length c3) (.int .i64 mkind) (.int .i64 mfa) (.int .i64 ma) (.slice none 0 0));have HXQ := hid (a3G (ExtQ.refl (fun k => k = p + 1 + 1) w3) (q := p + 1 + 1) rfl (.int .i64 mop) (.slice A3 mins.length c3) (.int .i64 mkind) (.int .i64 mfa) (.int .i64 ma) (.slice none 0 0))
 have HX4 := hid ((HX2.o.trans HE3.o).a3Z HXQ.o (fun g hg => by have h1 := HP.o; omega))
 go_wp2
 generalize (((((w3.setCell ⟨p + 1 + 1, 0, none⟩ (.int .i64 mop)).setCell ⟨p + 1 + 1, 1, none⟩ (.slice A3 mins.length c3)).setCell ⟨p + 1 + 1, 2, none⟩ (.int .i64 mkind)).setCell ⟨p + 1 + 1, 3, none⟩ (.int .i64 mfa)).setCell ⟨p + 1 + 1, 4, none⟩ (.int .i64 ma)).setCell ⟨p + 1 + 1, 5, none⟩ (.slice none 0 0) = wz at *;obtain ⟨y0, y1, y2, y3, y4, y5⟩ := HF.o.at_;exact bodyPost_ret (v := .tuple #[a1e mop mkind mfa ma (.slice A3 mins.length c3) (.slice none 0 0), .bool true]) (by simp [results, Tryz.results68, go_sem, y0, y1, y2, y3, y4, y5]) rfl ⟨_, rfl, (OE.mk (a0e HO3.o.own HXQ.o fun g hg q => by have h1 := HO3.o.lt hg; have h2 := HQ2.o; omega)).re, HX4.o⟩
theorem a7T (d : Nat) (v : Value) (l : List Nd) (out : Int) (i : Nat) (op kind fa a : Int) (ins : List Int) (body : List Nd) (w : World) (hv : a00 d w v l) (hok : gOk (l, out) = true) (hn : l[i]? = some (.mk op ins kind fa a body)) :
 Calls Tryz.prog 68 #[gAg v out, plV ((i : Int), (-1))] w fun e w' => ∃ u b, e = .returned (.tuple #[a1e op kind fa a u b, .bool true]) ∧ RE w' u ins ∧ a00 1 w' b body ∧ Ext w w' := by
 obtain ⟨hi, hx⟩ := List.getElem?_eq_some_iff.1 hn;have hnd := a5k hok (List.getElem_mem hi);rw [hx] at hnd;have HND2 := hid (show ins.length <= 2 ∧ body.length <= 32 ∧ ∀ m ∈ body, m.body = [] ∧ m.ins.length <= 2 from hnd);have HXX := hid hx;clear hnd hn;obtain ⟨A, c, rfl⟩ := hv.form;have HX0 := hid ((((Ext.refl w).alloc (gCs (.slice A l.length c) out)).alloc (a2x (i : Int) (-1))).alloc (a0m 0 0 0 0 (.slice none 0 0) (.slice none 0 0)));have HB0 := hid (show BN3 (((w.alloc (gCs (.slice A l.length c) out)).alloc (a2x (i : Int) (-1))).alloc (a0m 0 0 0 0 (.slice none 0 0) (.slice none 0 0))) w.heap.size (.slice A l.length c) out (i : Int) (-1) from BN3.new w (.slice A l.length c) out (i : Int) (-1));have HCK := hid (fun w h => a0G d (.slice A l.length c) l out w h)
 rw [show gE (l, out) = 0 from if_pos hok] at HCK;have HV := hid (hv.ext HX0.o);have g0 : ¬ (i : Int) < 0 := by omega
 have g1 : ¬ (l.length : Int) <= (i : Int) := by omega
 have g1b : (i : Int) < (l.length : Int) := by omega
 have g1c : 0 <= (i : Int) := by omega
 have g1n : i < l.length := hi;have HI := hid hi;clear hv hok hx
 go_enter Tryz.func68, Tryz.ntmps68
 go_upto_region 1 with fail
 obtain ⟨p, hp⟩ : ∃ p, p = w.heap.size := ⟨_, rfl⟩;rw [<- hp] at HB0 ⊢;have HP := hid hp;clear hp;generalize ((w.alloc (gCs (.slice A l.length c) out)).alloc (a2x (i : Int) (-1))).alloc (a0m 0 0 0 0 (.slice none 0 0) (.slice none 0 0)) = w0 at *;obtain ⟨a0, a1, a2, a3⟩ := HB0.o.cells
 go_wp2_with fail
 refine (HCK.o _ HV.o).mono ?_;rintro e w1 ⟨rfl, he1⟩;have HX1 := hid (HX0.o.trans he1);have HB1 := hid (HB0.o.ext he1);have HV1 := hid (HV.o.ext he1);clear he1 a0 a1 a2 a3;obtain ⟨a0, a1, a2, a3⟩ := HB1.o.cells;obtain ⟨bA, oA, u, bv, rfl, e0, e1, e2, e3, e4, e5, hu, hbv⟩ := HV1.o.at_ HI.o;rw [HXX.o] at e0 e2 e3 e4 hu hbv;simp only [Nd.op, Nd.kind, Nd.fa, Nd.a, Nd.ins, Nd.body] at e0 e2 e3 e4 hu hbv;obtain ⟨Au, cu, rfl⟩ := hu.form;obtain ⟨Ab, cb, rfl⟩ := hbv.form;have hxn := (Ext.refl w1).alloc (a0m op kind fa a (.slice Au ins.length cu) (.slice Ab body.length cb));have HX2 := hid (HX1.o.trans hxn);have HB2 := hid (HB1.o.ext hxn);have HN2 := hid (Bx6.new w1 101 (.int .i64 op) (.slice Au ins.length cu) (.int .i64 kind) (.int .i64 fa) (.int .i64 a) (.slice Ab body.length cb));have HU2 := hid (hu.ext hxn);have HW2 := hid (hbv.ext hxn);have HQ := hid (show p + 1 + 1 < w1.heap.size from HB1.o.r.b.lt);clear hxn hu hbv HV HV1
 go_upto_region 4 with fail
 clear e0 e1 e2 e3 e4 e5 a0 a1 a2 a3;generalize w1.heap.size = q at *;generalize w1.alloc (a0m op kind fa a (.slice Au ins.length cu) (.slice Ab body.length cb)) = w2 at *;obtain ⟨a0, a1, a2, a3⟩ := HB2.o.cells;obtain ⟨n0, n1, n2, n3, n4, n5⟩ := HN2.o.at_
 go_wp2_with fail
 refine (b0C op kind fa a (.slice Au ins.length cu) (.slice Ab body.length cb) ins body _ w2 HU2.o HW2.o (by have := HND2.o.1; omega) (by have := HND2.o.2.1; omega) (fun m hm => ⟨(HND2.o.2.2 m hm).1, by have := (HND2.o.2.2 m hm).2; omega⟩)).mono ?_
 rintro e w3 ⟨u', b', rfl, hst, he3⟩;have HE3 := hid he3;have HST := hid hst;have HQ2 := hid HB2.o.r.b.lt;obtain ⟨A3, c3, rfl⟩ := (hst w3 (ExtQ.refl _ _)).1.form;obtain ⟨A4, c4, rfl⟩ := (hst w3 (ExtQ.refl _ _)).2.form;clear he3 hst;have HB3 := hid (HB2.o.ext HE3.o);clear a0 a1 a2 a3 n0 n1 n2 n3 n4 n5;obtain ⟨⟨r0, r1, r2, r3, r4, r5⟩, f0, f1, f2, f3, f4, f5⟩ := HB3.o.a4C;have HF := hid (HB3.o.r.fill (.int .i64 op) (.slice A3 ins.length c3) (.int .i64 kind) (.int .i64 fa) (.int .i64 a) (.slice A4 body.length c4));have HXQ := hid (a3G (ExtQ.refl (fun k => k = p + 1 + 1) w3) (q := p + 1 + 1) rfl (.int .i64 op) (.slice A3 ins.length c3) (.int .i64 kind) (.int .i64 fa) (.int .i64 a) (.slice A4 body.length c4))
 have HX4 := hid ((HX2.o.trans HE3.o).a3Z HXQ.o (fun g hg => by have h1 := HP.o; omega))
 go_wp2
 generalize (((((w3.setCell ⟨p + 1 + 1, 0, none⟩ (.int .i64 op)).setCell ⟨p + 1 + 1, 1, none⟩ (.slice A3 ins.length c3)).setCell ⟨p + 1 + 1, 2, none⟩ (.int .i64 kind)).setCell ⟨p + 1 + 1, 3, none⟩ (.int .i64 fa)).setCell ⟨p + 1 + 1, 4, none⟩ (.int .i64 a)).setCell ⟨p + 1 + 1, 5, none⟩ (.slice A4 body.length c4) = wz at *;obtain ⟨y0, y1, y2, y3, y4, y5⟩ := HF.o.at_;exact bodyPost_ret (v := .tuple #[a1e op kind fa a (.slice A3 ins.length c3) (.slice A4 body.length c4), .bool true]) (by simp [results, Tryz.results68, go_sem, y0, y1, y2, y3, y4, y5]) rfl ⟨_, _, rfl, (HST.o _ (HXQ.o.mono fun g hg => by have h1 := HQ2.o; omega)).1, (HST.o _ (HXQ.o.mono fun g hg => by have h1 := HQ2.o; omega)).2, HX4.o⟩
theorem b24 (d : Nat) (v : Value) (l : List Nd) (out : Int) (i : Nat) (j : Int) (op kind fa a : Int) (ins : List Int) (body : List Nd) (w : World) (hv : a00 d w v l) (hok : gOk (l, out) = true) (hn : l[i]? = some (.mk op ins kind fa a body)) (hj : 0 <= j ∧ (body.length : Int) <= j) :
 Calls Tryz.prog 68 #[gAg v out, plV ((i : Int), j)] w fun e w' => e = .returned (.tuple #[b69, .bool false]) ∧ Ext w w' := by
 obtain ⟨hi, hx⟩ := List.getElem?_eq_some_iff.1 hn;have hnd := a5k hok (List.getElem_mem hi);rw [hx] at hnd;have HND2 := hid (show ins.length <= 2 ∧ body.length <= 32 ∧ ∀ m ∈ body, m.body = [] ∧ m.ins.length <= 2 from hnd);have HXX := hid hx;clear hnd hn;obtain ⟨A, c, rfl⟩ := hv.form;have HX0 := hid ((((Ext.refl w).alloc (gCs (.slice A l.length c) out)).alloc (a2x (i : Int) j)).alloc (a0m 0 0 0 0 (.slice none 0 0) (.slice none 0 0)));have HB0 := hid (show BN3 (((w.alloc (gCs (.slice A l.length c) out)).alloc (a2x (i : Int) j)).alloc (a0m 0 0 0 0 (.slice none 0 0) (.slice none 0 0))) w.heap.size (.slice A l.length c) out (i : Int) j from BN3.new w (.slice A l.length c) out (i : Int) j);have HCK := hid (fun w h => a0G d (.slice A l.length c) l out w h)
 rw [show gE (l, out) = 0 from if_pos hok] at HCK;have HV := hid (hv.ext HX0.o);have g0 : ¬ (i : Int) < 0 := by omega
 have g1 : ¬ (l.length : Int) <= (i : Int) := by omega
 have g1b : (i : Int) < (l.length : Int) := by omega
 have g1c : 0 <= (i : Int) := by omega
 have g1n : i < l.length := hi;have HI := hid hi;have HJ := hid hj;clear hv hok hx hj
 go_enter Tryz.func68, Tryz.ntmps68
 go_upto_region 1 with fail
 obtain ⟨p, hp⟩ : ∃ p, p = w.heap.size := ⟨_, rfl⟩;rw [<- hp] at HB0 ⊢;have HP := hid hp;clear hp;generalize ((w.alloc (gCs (.slice A l.length c) out)).alloc (a2x (i : Int) j)).alloc (a0m 0 0 0 0 (.slice none 0 0) (.slice none 0 0)) = w0 at *;obtain ⟨a0, a1, a2, a3⟩ := HB0.o.cells
 go_wp2_with fail
 refine (HCK.o _ HV.o).mono ?_;rintro e w1 ⟨rfl, he1⟩;have HX1 := hid (HX0.o.trans he1);have HB1 := hid (HB0.o.ext he1);have HV1 := hid (HV.o.ext he1);clear he1 a0 a1 a2 a3;obtain ⟨a0, a1, a2, a3⟩ := HB1.o.cells;obtain ⟨bA, oA, u, bv, rfl, e0, e1, e2, e3, e4, e5, hu, hbv⟩ := HV1.o.at_ HI.o;have hj0 : 0 <= j := HJ.o.1;have hj1 : ¬ j < -1 := by omega
 have hjm : (j == -1) = false := by simp; omega
 have HJ1 := hid (show (body.length : Int) <= j from HJ.o.2);rw [HXX.o] at e0 e2 e3 e4 hu hbv;simp only [Nd.op, Nd.kind, Nd.fa, Nd.a, Nd.ins, Nd.body] at e0 e2 e3 e4 hu hbv;obtain ⟨Au, cu, rfl⟩ := hu.form;obtain ⟨Ab, cb, rfl⟩ := hbv.form;have hxn := (Ext.refl w1).alloc (a0m op kind fa a (.slice Au ins.length cu) (.slice Ab body.length cb));have HX2 := hid (HX1.o.trans hxn);have HB2 := hid (HB1.o.ext hxn);have HN2 := hid (Bx6.new w1 101 (.int .i64 op) (.slice Au ins.length cu) (.int .i64 kind) (.int .i64 fa) (.int .i64 a) (.slice Ab body.length cb));have HU2 := hid (hu.ext hxn);have HW2 := hid (hbv.ext hxn);have HQ := hid (show p + 1 + 1 < w1.heap.size from HB1.o.r.b.lt);clear hxn hu hbv HV HV1
 go_upto_region 4 with fail
 clear e0 e1 e2 e3 e4 e5 a0 a1 a2 a3;generalize w1.heap.size = q at *;generalize w1.alloc (a0m op kind fa a (.slice Au ins.length cu) (.slice Ab body.length cb)) = w2 at *;obtain ⟨a0, a1, a2, a3⟩ := HB2.o.cells;obtain ⟨n0, n1, n2, n3, n4, n5⟩ := HN2.o.at_;have hjb := HJ1.o;obtain ⟨w3, hw3⟩ : ∃ w3, w3 = w2 := ⟨_, rfl⟩;have HE3 := hid (show Ext w2 w3 by rw [hw3]; exact Ext.refl _)
 subst hw3;have HB3 := hid (HB2.o.ext HE3.o);obtain ⟨⟨r0, r1, r2, r3, r4, r5⟩, f0, f1, f2, f3, f4, f5⟩ := HB3.o.a4C;have HF := hid (HB3.o.r.fill (.int .i64 0) (.slice none 0 0) (.int .i64 0) (.int .i64 0) (.int .i64 0) (.slice none 0 0));have HXQ := hid (a3G (ExtQ.refl (fun k => k = p + 1 + 1) w3) (q := p + 1 + 1) rfl (.int .i64 0) (.slice none 0 0) (.int .i64 0) (.int .i64 0) (.int .i64 0) (.slice none 0 0))
 have HX4 := hid ((HX2.o.trans HE3.o).a3Z HXQ.o (fun g hg => by have h1 := HP.o; omega))
 go_wp2
 generalize (((((w3.setCell ⟨p + 1 + 1, 0, none⟩ (.int .i64 0)).setCell ⟨p + 1 + 1, 1, none⟩ (.slice none 0 0)).setCell ⟨p + 1 + 1, 2, none⟩ (.int .i64 0)).setCell ⟨p + 1 + 1, 3, none⟩ (.int .i64 0)).setCell ⟨p + 1 + 1, 4, none⟩ (.int .i64 0)).setCell ⟨p + 1 + 1, 5, none⟩ (.slice none 0 0) = wz at *;obtain ⟨y0, y1, y2, y3, y4, y5⟩ := HF.o.at_;exact bodyPost_ret (v := .tuple #[a1e 0 0 0 0 (.slice none 0 0) (.slice none 0 0), .bool false]) (by simp [results, Tryz.results68, go_sem, y0, y1, y2, y3, y4, y5]) rfl ⟨rfl, HX4.o⟩
end Go.Proofs.YtdkejfjcchlnpaaGreat
