/-
  Layer 17: the law's own small functions: whether places are the same, where one stands.
  Layer 17: ports, and whether lists of them are the same.
  Package graph: the ports that name a node.
-/
import Derived.Test.YtpmikcklkddocaaGrNodeR
namespace Go.Proofs.Ytpmikcklkddocaa
open Go.RowKit Go.Ox Go.Ox.Gr
set_option linter.unusedVariables false
set_option linter.unusedSimpArgs false

theorem list_eq_s {α : Type} {l r : List α} {k : Nat} (h1 : k < l.length) (h2 : k < r.length) (ht : l.take k = r.take k) (he : l[k] = r[k]) : l.take (k + 1) = r.take (k + 1) := by
  rw [List.take_succ_eq_append_getElem h1, List.take_succ_eq_append_getElem h2, ht]
  exact congrArg (fun z => r.take k ++ [z]) he
theorem list_ne_s {α : Type} {l r : List α} {k : Nat} (h1 : k < l.length) (h2 : k < r.length) (he : l[k] ≠ r[k]) : l ≠ r := fun e => by subst e; exact he rfl
attribute [local irreducible] RE OE NodesR
set_option maxRecDepth 100000 in
set_option maxHeartbeats 2000000 in
theorem samePl_any (v u : Value) (l r : List Pl) (w : World) (hv : RE w v l) (hu : RE w u r) (hl : l.length ≤ 1000000) :
    Calls Try.prog 23 #[v, u] w fun e w' => e = .returned (.bool (decide (l = r))) ∧ Ext w w' := by
  obtain ⟨A, c, rfl⟩ := hv.form
  obtain ⟨B, d, rfl⟩ := hu.form
  by_cases hlen : l.length = r.length
  case neg =>
    have hb : ((l.length : Int) != (r.length : Int)) = true := by simp; omega
    rw [decide_eq_false (fun e => hlen (by rw [e]))]
    clear hlen hv hu
    go_enter Try.func23, Try.ntmps23
    go_wp2
    go_ret
    exact ⟨rfl, Ext.refl _⟩
  have hb : ((l.length : Int) != (r.length : Int)) = false := by simp; omega
  have HV := Lib.hid hv
  have HU := Lib.hid hu
  have HL := Lib.hid hl
  have HLEN := Lib.hid hlen
  have HRT := Lib.hid (show l = r → decide (l = r) = true from fun h => decide_eq_true h)
  have HRF := Lib.hid (show l ≠ r → decide (l = r) = false from fun h => decide_eq_false h)
  generalize decide (l = r) = R at *
  clear hv hu hl hlen
  go_enter Try.func23, Try.ntmps23
  go_wp2
  clear hb
  go_loopw [5] (fun iv wr => ∃ k : Nat, k ≤ l.length ∧ iv = .int .i64 (k : Int) ∧ l.take k = r.take k ∧ Ext w wr) (fun iv _ => l.length - (intOf iv).toNat)
  case atStart => exact ⟨0, Nat.zero_le _, rfl, rfl, Ext.refl _⟩
  case round =>
    obtain ⟨k, hk, rfl, hp, hext⟩ := hrel
    have HP := Lib.hid hp
    have HE := Lib.hid hext
    have hkb : k ≤ 1000000 := by have := HL.out; omega
    clear hp
    by_cases hlt : k < l.length
    · have q1 : (k : Int) < (l.length : Int) := by omega
      have q0 : 0 ≤ (k : Int) := by omega
      have q1n : k < l.length := hlt
      have q2n : k < r.length := by have := HLEN.out; omega
      have q2 : (k : Int) < (r.length : Int) := by omega
      have HLT := Lib.hid hlt
      obtain ⟨bA, oA, rfl, x0, x1⟩ := rp2 (HV.out.ext hext) hlt
      obtain ⟨bB, oB, rfl, y0, y1⟩ := rp2 (HU.out.ext hext) q2n
      have HEQ := Lib.hid (list_eq_s hlt q2n HP.out)
      have HNE := Lib.hid (list_ne_s hlt q2n)
      generalize l[k] = x at *
      generalize r[k] = y at *
      obtain ⟨xa, xb⟩ := x
      obtain ⟨ya, yb⟩ := y
      dsimp only at x0 x1 y0 y1
      have heq := nePl
      clear hext hlt hk
      by_cases hq : (xa, xb) = (ya, yb)
      · have hd := pB_t hq
        have HT := Lib.hid (HEQ.out hq)
        clear hq
        go_wp2
        refine wp_regionY [] [] Ext Ext (fun _ => True) (by kernel_rfl) (by rfl) (by rfl) (by kernel_rfl) (by kernel_rfl) (by kernel_rfl) (fun _ _ _ x y => x.trans y) Ext.refl (fun _ _ x => x) (Ext.refl _).drew (fun _ _ x _ => x) trivial ?_
        repeat (first | (refine wpY_move0 rfl rfl (by first | exact runs0 | exact runs1 rfl) Ext.refl rfl rfl rfl ?_; apply Exists.intro; refine ⟨?_, ?_⟩; · (go_simp; rfl)) | (refine wpY_move rfl rfl (by first | exact runs0 | exact runs1 rfl) Ext.refl rfl rfl rfl (fun _ _ _ h _ => h) ?_) | (refine wpY_val rfl rfl (by first | exact runs0 | exact runs1 rfl) Ext.refl rfl ?_; apply Exists.intro; refine ⟨?_, ?_⟩; · (intro a w' hR; intro h1; (first | (have e1 : _ = _ := h1) | skip); intro h2; (first | (have e2 : _ = _ := h2) | skip); go_simp; rfl)) | (refine wpY_val rfl rfl (by first | exact runs0 | exact runs1 rfl) Ext.refl rfl ?_; apply Exists.intro; refine ⟨?_, ?_⟩; · (intro a w' hR; intro h1; (first | (have e1 : _ = _ := h1) | skip); go_simp; rfl)) | (refine wpY_val rfl rfl (by first | exact runs0 | exact runs1 rfl) Ext.refl rfl ?_; apply Exists.intro; refine ⟨?_, ?_⟩; · (intro a w' hR; go_simp; rfl)) | (refine wpY_val rfl rfl (by first | exact runs0 | exact runs1 rfl) Ext.refl rfl ?_; apply Exists.intro; refine ⟨?_, ?_⟩; · (intro a w' hR; intro h1; (first | (have e1 : _ = _ := h1) | skip); intro h2; (first | (have e2 : _ = _ := h2) | skip); intro h3; (first | (have e3 : _ = _ := h3) | skip); go_simp; rfl)) | (refine wpY_skip rfl rfl (by first | exact .inl rfl | exact .inr rfl) ?_))
        refine wpY_val rfl rfl (by first | exact runs0 | exact runs1 rfl) Ext.refl rfl ?_; apply Exists.intro; refine ⟨?_, ?_⟩
        · intro a w' hR h1
          have e1 : _ = _ := h1
          have hl0 := hR.cell x0
          have hl1 := hR.cell x1
          go_simp
          rfl
        repeat (first | (refine wpY_move0 rfl rfl (by first | exact runs0 | exact runs1 rfl) Ext.refl rfl rfl rfl ?_; apply Exists.intro; refine ⟨?_, ?_⟩; · (go_simp; rfl)) | (refine wpY_move rfl rfl (by first | exact runs0 | exact runs1 rfl) Ext.refl rfl rfl rfl (fun _ _ _ h _ => h) ?_) | (refine wpY_val rfl rfl (by first | exact runs0 | exact runs1 rfl) Ext.refl rfl ?_; apply Exists.intro; refine ⟨?_, ?_⟩; · (intro a w' hR; intro h1; (first | (have e1 : _ = _ := h1) | skip); intro h2; (first | (have e2 : _ = _ := h2) | skip); go_simp; rfl)) | (refine wpY_val rfl rfl (by first | exact runs0 | exact runs1 rfl) Ext.refl rfl ?_; apply Exists.intro; refine ⟨?_, ?_⟩; · (intro a w' hR; intro h1; (first | (have e1 : _ = _ := h1) | skip); go_simp; rfl)) | (refine wpY_val rfl rfl (by first | exact runs0 | exact runs1 rfl) Ext.refl rfl ?_; apply Exists.intro; refine ⟨?_, ?_⟩; · (intro a w' hR; go_simp; rfl)) | (refine wpY_val rfl rfl (by first | exact runs0 | exact runs1 rfl) Ext.refl rfl ?_; apply Exists.intro; refine ⟨?_, ?_⟩; · (intro a w' hR; intro h1; (first | (have e1 : _ = _ := h1) | skip); intro h2; (first | (have e2 : _ = _ := h2) | skip); intro h3; (first | (have e3 : _ = _ := h3) | skip); go_simp; rfl)) | (refine wpY_skip rfl rfl (by first | exact .inl rfl | exact .inr rfl) ?_))
        refine wpY_val rfl rfl (by first | exact runs0 | exact runs1 rfl) Ext.refl rfl ?_; apply Exists.intro; refine ⟨?_, ?_⟩
        · intro a w' hR h1
          have e1 : _ = _ := h1
          have hl0 := hR.cell y0
          have hl1 := hR.cell y1
          go_simp
          rfl
        refine wpY_val rfl rfl (by first | exact runs0 | exact runs1 rfl) Ext.refl rfl ?_; apply Exists.intro; refine ⟨?_, ?_⟩
        · intro a w' hR h1 h2
          have e1 : _ = _ := h1
          have e2 : _ = _ := h2
          have hq9 := heq xa xb ya yb w'
          rw [hd] at hq9
          go_simp
          rfl
        refine wpY_done ?_
        intro w5 hx5 hS
        iterate 9 (rintro _ rfl)
        dsimp only [FinV]
        go_simp
        have hx5 : Ext wr w5 := hx5
        have HX5 := Lib.hid (HE.out.trans hx5)
        clear hx5 hS x0 x1 y0 y1 heq hd
        go_wp2
        exact ⟨⟨k + 1, HLT.out, by go_num, HT.out, HX5.out⟩, by have := HLT.out; simp [intOf]; omega⟩
      · have hd := pB_f hq
        have HR := Lib.hid (HRF.out (HNE.out hq))
        clear hq
        go_wp2
        refine wp_regionY [] [] Ext Ext (fun _ => True) (by kernel_rfl) (by rfl) (by rfl) (by kernel_rfl) (by kernel_rfl) (by kernel_rfl) (fun _ _ _ x y => x.trans y) Ext.refl (fun _ _ x => x) (Ext.refl _).drew (fun _ _ x _ => x) trivial ?_
        repeat (first | (refine wpY_move0 rfl rfl (by first | exact runs0 | exact runs1 rfl) Ext.refl rfl rfl rfl ?_; apply Exists.intro; refine ⟨?_, ?_⟩; · (go_simp; rfl)) | (refine wpY_move rfl rfl (by first | exact runs0 | exact runs1 rfl) Ext.refl rfl rfl rfl (fun _ _ _ h _ => h) ?_) | (refine wpY_val rfl rfl (by first | exact runs0 | exact runs1 rfl) Ext.refl rfl ?_; apply Exists.intro; refine ⟨?_, ?_⟩; · (intro a w' hR; intro h1; (first | (have e1 : _ = _ := h1) | skip); intro h2; (first | (have e2 : _ = _ := h2) | skip); go_simp; rfl)) | (refine wpY_val rfl rfl (by first | exact runs0 | exact runs1 rfl) Ext.refl rfl ?_; apply Exists.intro; refine ⟨?_, ?_⟩; · (intro a w' hR; intro h1; (first | (have e1 : _ = _ := h1) | skip); go_simp; rfl)) | (refine wpY_val rfl rfl (by first | exact runs0 | exact runs1 rfl) Ext.refl rfl ?_; apply Exists.intro; refine ⟨?_, ?_⟩; · (intro a w' hR; go_simp; rfl)) | (refine wpY_val rfl rfl (by first | exact runs0 | exact runs1 rfl) Ext.refl rfl ?_; apply Exists.intro; refine ⟨?_, ?_⟩; · (intro a w' hR; intro h1; (first | (have e1 : _ = _ := h1) | skip); intro h2; (first | (have e2 : _ = _ := h2) | skip); intro h3; (first | (have e3 : _ = _ := h3) | skip); go_simp; rfl)) | (refine wpY_skip rfl rfl (by first | exact .inl rfl | exact .inr rfl) ?_))
        refine wpY_val rfl rfl (by first | exact runs0 | exact runs1 rfl) Ext.refl rfl ?_; apply Exists.intro; refine ⟨?_, ?_⟩
        · intro a w' hR h1
          have e1 : _ = _ := h1
          have hl0 := hR.cell x0
          have hl1 := hR.cell x1
          go_simp
          rfl
        repeat (first | (refine wpY_move0 rfl rfl (by first | exact runs0 | exact runs1 rfl) Ext.refl rfl rfl rfl ?_; apply Exists.intro; refine ⟨?_, ?_⟩; · (go_simp; rfl)) | (refine wpY_move rfl rfl (by first | exact runs0 | exact runs1 rfl) Ext.refl rfl rfl rfl (fun _ _ _ h _ => h) ?_) | (refine wpY_val rfl rfl (by first | exact runs0 | exact runs1 rfl) Ext.refl rfl ?_; apply Exists.intro; refine ⟨?_, ?_⟩; · (intro a w' hR; intro h1; (first | (have e1 : _ = _ := h1) | skip); intro h2; (first | (have e2 : _ = _ := h2) | skip); go_simp; rfl)) | (refine wpY_val rfl rfl (by first | exact runs0 | exact runs1 rfl) Ext.refl rfl ?_; apply Exists.intro; refine ⟨?_, ?_⟩; · (intro a w' hR; intro h1; (first | (have e1 : _ = _ := h1) | skip); go_simp; rfl)) | (refine wpY_val rfl rfl (by first | exact runs0 | exact runs1 rfl) Ext.refl rfl ?_; apply Exists.intro; refine ⟨?_, ?_⟩; · (intro a w' hR; go_simp; rfl)) | (refine wpY_val rfl rfl (by first | exact runs0 | exact runs1 rfl) Ext.refl rfl ?_; apply Exists.intro; refine ⟨?_, ?_⟩; · (intro a w' hR; intro h1; (first | (have e1 : _ = _ := h1) | skip); intro h2; (first | (have e2 : _ = _ := h2) | skip); intro h3; (first | (have e3 : _ = _ := h3) | skip); go_simp; rfl)) | (refine wpY_skip rfl rfl (by first | exact .inl rfl | exact .inr rfl) ?_))
        refine wpY_val rfl rfl (by first | exact runs0 | exact runs1 rfl) Ext.refl rfl ?_; apply Exists.intro; refine ⟨?_, ?_⟩
        · intro a w' hR h1
          have e1 : _ = _ := h1
          have hl0 := hR.cell y0
          have hl1 := hR.cell y1
          go_simp
          rfl
        refine wpY_val rfl rfl (by first | exact runs0 | exact runs1 rfl) Ext.refl rfl ?_; apply Exists.intro; refine ⟨?_, ?_⟩
        · intro a w' hR h1 h2
          have e1 : _ = _ := h1
          have e2 : _ = _ := h2
          have hq9 := heq xa xb ya yb w'
          rw [hd] at hq9
          go_simp
          rfl
        refine wpY_done ?_
        intro w5 hx5 hS
        iterate 9 (rintro _ rfl)
        dsimp only [FinV]
        go_simp
        have hx5 : Ext wr w5 := hx5
        have HX5 := Lib.hid (HE.out.trans hx5)
        clear hx5 hS x0 x1 y0 y1 heq hd
        go_wp2
        go_ret
        exact ⟨by rw [HR.out]; rfl, HX5.out⟩
    · obtain rfl : k = l.length := by omega
      have q1 : ¬ (l.length : Int) < (l.length : Int) := by omega
      have HR := Lib.hid (HRT.out (by have := HP.out; rw [List.take_length, HLEN.out, List.take_length] at this; exact this))
      clear hext hk hlt
      go_wp2
      go_ret
      exact ⟨by rw [HR.out]; rfl, HE.out⟩
/-- where a place stands among others; below 0: it is not there -/
def posFrom (p : Pl) : List Pl → Nat → Int
  | [], _ => -1
  | x :: l, i => if x = p then (i : Int) else posFrom p l (i + 1)
theorem posFrom_hit {p x : Pl} {l : List Pl} {i : Nat} (h : x = p) : posFrom p (x :: l) i = (i : Int) := if_pos h
theorem posFrom_miss {p x : Pl} {l : List Pl} {i : Nat} (h : x ≠ p) : posFrom p (x :: l) i = posFrom p l (i + 1) := if_neg h
theorem posFrom_at {p : Pl} : ∀ {l : List Pl} {i k : Nat} (hk : k < l.length), p ∉ l.take k → l[k] = p → posFrom p l i = ((i + k : Nat) : Int)
  | [], _, _, hk, _, _ => absurd hk (Nat.not_lt_zero _)
  | x :: l, i, 0, _, _, h => by rw [posFrom_hit (by simpa using h)]; simp
  | x :: l, i, k + 1, hk, hn, h => by
    rw [List.take_succ_cons, List.mem_cons, not_or] at hn
    rw [posFrom_miss (fun e => hn.1 e.symm), posFrom_at (k := k) (by simpa using hk) hn.2 (by simpa using h)]
    congr 1
    omega
theorem posFrom_none {p : Pl} : ∀ {l : List Pl} {i : Nat}, p ∉ l → posFrom p l i = -1
  | [], _, _ => rfl
  | x :: l, i, hn => by
    rw [List.mem_cons, not_or] at hn
    rw [posFrom_miss (fun e => hn.1 e.symm), posFrom_none hn.2]
set_option maxRecDepth 100000 in
set_option maxHeartbeats 2000000 in
theorem place_any (v : Value) (l : List Pl) (i j : Int) (w : World) (hv : RE w v l) (hl : l.length ≤ 1000000) :
    Calls Try.prog 32 #[v, .agg #[.int .i64 i, .int .i64 j]] w fun e w' => e = .returned (.int .i64 (posFrom (i, j) l 0)) ∧ Ext w w' := by
  obtain ⟨A, c, rfl⟩ := hv.form
  have HX0 := Lib.hid ((Ext.refl w).alloc (.cells #[.int .i64 i, .int .i64 j] 35))
  have HB0 := Lib.hid (Blk.new w 35 #[.int .i64 i, .int .i64 j])
  have HV := Lib.hid (hv.ext HX0.out)
  have HL := Lib.hid hl
  have HPA := Lib.hid (fun k hk h1 h2 => @posFrom_at (i, j) l 0 k hk h1 h2)
  have HPN := Lib.hid (@posFrom_none (i, j) l 0)
  generalize posFrom (i, j) l 0 = R at *
  clear hv hl
  go_enter Try.func32, Try.ntmps32
  go_upto_region 1 with fail
  generalize w.heap.size = p at *
  generalize w.alloc (.cells #[.int .i64 i, .int .i64 j] 35) = w0 at *
  go_wp2
  go_loopw [5] (fun iv wr => ∃ k : Nat, k ≤ l.length ∧ iv = .int .i64 (k : Int) ∧ ((i, j) : Pl) ∉ l.take k ∧ Ext w0 wr) (fun iv _ => l.length - (intOf iv).toNat)
  case atStart => exact ⟨0, Nat.zero_le _, rfl, by simp, Ext.refl _⟩
  case round =>
    obtain ⟨k, hk, rfl, hno, hext⟩ := hrel
    have HNO := Lib.hid hno
    have HE := Lib.hid hext
    have a2 : wr.cell? ⟨p, 0, none⟩ = some (.int .i64 i) := (HB0.out.ext hext).cell 0
    have a3 : wr.cell? ⟨p, 1, none⟩ = some (.int .i64 j) := (HB0.out.ext hext).cell 1
    have hkb : k ≤ 1000000 := by have := HL.out; omega
    clear hno
    by_cases hlt : k < l.length
    · have q1 : (k : Int) < (l.length : Int) := by omega
      have q0 : 0 ≤ (k : Int) := by omega
      have q1n : k < l.length := hlt
      have HLT := Lib.hid hlt
      obtain ⟨bA, oA, rfl, y0, y1⟩ := rp2 (HV.out.ext hext) hlt
      have HTK := Lib.hid (show ((i, j) : Pl) ≠ l[k] → ((i, j) : Pl) ∉ l.take (k + 1) from fun hne hm => by
        rw [List.take_succ_eq_append_getElem hlt, List.mem_append] at hm
        rcases hm with hm | hm
        · exact HNO.out hm
        · exact hne (List.mem_singleton.1 hm))
      have HHIT := Lib.hid (HPA.out k hlt HNO.out)
      generalize l[k] = x at *
      obtain ⟨x1, x2⟩ := x
      dsimp only at y0 y1
      have heq := eqPl
      clear hext hk hlt
      by_cases hq : (x1, x2) = (i, j)
      · have hd := pB_t hq
        have HR := Lib.hid (show R = (k : Int) by have := HHIT.out hq; rw [Nat.zero_add] at this; exact this)
        clear hq
        go_wp2
        refine wp_regionY [] [] Ext Ext (fun _ => True) (by kernel_rfl) (by rfl) (by rfl) (by kernel_rfl) (by kernel_rfl) (by kernel_rfl) (fun _ _ _ x y => x.trans y) Ext.refl (fun _ _ x => x) (Ext.refl _).drew (fun _ _ x _ => x) trivial ?_
        repeat (first | (refine wpY_move0 rfl rfl (by first | exact runs0 | exact runs1 rfl) Ext.refl rfl rfl rfl ?_; apply Exists.intro; refine ⟨?_, ?_⟩; · (go_simp; rfl)) | (refine wpY_move rfl rfl (by first | exact runs0 | exact runs1 rfl) Ext.refl rfl rfl rfl (fun _ _ _ h _ => h) ?_) | (refine wpY_val rfl rfl (by first | exact runs0 | exact runs1 rfl) Ext.refl rfl ?_; apply Exists.intro; refine ⟨?_, ?_⟩; · (intro a w' hR; intro h1; (first | (have e1 : _ = _ := h1) | skip); intro h2; (first | (have e2 : _ = _ := h2) | skip); go_simp; rfl)) | (refine wpY_val rfl rfl (by first | exact runs0 | exact runs1 rfl) Ext.refl rfl ?_; apply Exists.intro; refine ⟨?_, ?_⟩; · (intro a w' hR; intro h1; (first | (have e1 : _ = _ := h1) | skip); go_simp; rfl)) | (refine wpY_val rfl rfl (by first | exact runs0 | exact runs1 rfl) Ext.refl rfl ?_; apply Exists.intro; refine ⟨?_, ?_⟩; · (intro a w' hR; go_simp; rfl)) | (refine wpY_val rfl rfl (by first | exact runs0 | exact runs1 rfl) Ext.refl rfl ?_; apply Exists.intro; refine ⟨?_, ?_⟩; · (intro a w' hR; intro h1; (first | (have e1 : _ = _ := h1) | skip); intro h2; (first | (have e2 : _ = _ := h2) | skip); intro h3; (first | (have e3 : _ = _ := h3) | skip); go_simp; rfl)) | (refine wpY_skip rfl rfl (by first | exact .inl rfl | exact .inr rfl) ?_))
        refine wpY_val rfl rfl (by first | exact runs0 | exact runs1 rfl) Ext.refl rfl ?_; apply Exists.intro; refine ⟨?_, ?_⟩
        · intro a w' hR h1
          have e1 : _ = _ := h1
          have hl0 := hR.cell y0
          have hl1 := hR.cell y1
          go_simp
          rfl
        refine wpY_val rfl rfl (by first | exact runs0 | exact runs1 rfl) Ext.refl rfl ?_; apply Exists.intro; refine ⟨?_, ?_⟩
        · intro a w' hR h1
          have e1 : _ = _ := h1
          have hl0 := hR.cell a2
          have hl1 := hR.cell a3
          go_simp
          rfl
        refine wpY_val rfl rfl (by first | exact runs0 | exact runs1 rfl) Ext.refl rfl ?_; apply Exists.intro; refine ⟨?_, ?_⟩
        · intro a w' hR h1 h2
          have e1 : _ = _ := h1
          have e2 : _ = _ := h2
          have hq9 := heq x1 x2 i j w'
          rw [hd] at hq9
          go_simp
          rfl
        refine wpY_done ?_
        intro w5 hx5 hS
        iterate 6 (rintro _ rfl)
        dsimp only [FinV]
        go_simp
        have hx5 : Ext wr w5 := hx5
        have HX5 := Lib.hid ((HX0.out.trans HE.out).trans hx5)
        clear hx5 hS y0 y1 a2 a3 heq hd
        go_wp2
        go_ret
        exact ⟨by rw [HR.out]; rfl, HX5.out⟩
      · have hd := pB_f hq
        have HN2 := Lib.hid (HTK.out fun e => hq e.symm)
        clear hq
        go_wp2
        refine wp_regionY [] [] Ext Ext (fun _ => True) (by kernel_rfl) (by rfl) (by rfl) (by kernel_rfl) (by kernel_rfl) (by kernel_rfl) (fun _ _ _ x y => x.trans y) Ext.refl (fun _ _ x => x) (Ext.refl _).drew (fun _ _ x _ => x) trivial ?_
        repeat (first | (refine wpY_move0 rfl rfl (by first | exact runs0 | exact runs1 rfl) Ext.refl rfl rfl rfl ?_; apply Exists.intro; refine ⟨?_, ?_⟩; · (go_simp; rfl)) | (refine wpY_move rfl rfl (by first | exact runs0 | exact runs1 rfl) Ext.refl rfl rfl rfl (fun _ _ _ h _ => h) ?_) | (refine wpY_val rfl rfl (by first | exact runs0 | exact runs1 rfl) Ext.refl rfl ?_; apply Exists.intro; refine ⟨?_, ?_⟩; · (intro a w' hR; intro h1; (first | (have e1 : _ = _ := h1) | skip); intro h2; (first | (have e2 : _ = _ := h2) | skip); go_simp; rfl)) | (refine wpY_val rfl rfl (by first | exact runs0 | exact runs1 rfl) Ext.refl rfl ?_; apply Exists.intro; refine ⟨?_, ?_⟩; · (intro a w' hR; intro h1; (first | (have e1 : _ = _ := h1) | skip); go_simp; rfl)) | (refine wpY_val rfl rfl (by first | exact runs0 | exact runs1 rfl) Ext.refl rfl ?_; apply Exists.intro; refine ⟨?_, ?_⟩; · (intro a w' hR; go_simp; rfl)) | (refine wpY_val rfl rfl (by first | exact runs0 | exact runs1 rfl) Ext.refl rfl ?_; apply Exists.intro; refine ⟨?_, ?_⟩; · (intro a w' hR; intro h1; (first | (have e1 : _ = _ := h1) | skip); intro h2; (first | (have e2 : _ = _ := h2) | skip); intro h3; (first | (have e3 : _ = _ := h3) | skip); go_simp; rfl)) | (refine wpY_skip rfl rfl (by first | exact .inl rfl | exact .inr rfl) ?_))
        refine wpY_val rfl rfl (by first | exact runs0 | exact runs1 rfl) Ext.refl rfl ?_; apply Exists.intro; refine ⟨?_, ?_⟩
        · intro a w' hR h1
          have e1 : _ = _ := h1
          have hl0 := hR.cell y0
          have hl1 := hR.cell y1
          go_simp
          rfl
        refine wpY_val rfl rfl (by first | exact runs0 | exact runs1 rfl) Ext.refl rfl ?_; apply Exists.intro; refine ⟨?_, ?_⟩
        · intro a w' hR h1
          have e1 : _ = _ := h1
          have hl0 := hR.cell a2
          have hl1 := hR.cell a3
          go_simp
          rfl
        refine wpY_val rfl rfl (by first | exact runs0 | exact runs1 rfl) Ext.refl rfl ?_; apply Exists.intro; refine ⟨?_, ?_⟩
        · intro a w' hR h1 h2
          have e1 : _ = _ := h1
          have e2 : _ = _ := h2
          have hq9 := heq x1 x2 i j w'
          rw [hd] at hq9
          go_simp
          rfl
        refine wpY_done ?_
        intro w5 hx5 hS
        iterate 6 (rintro _ rfl)
        dsimp only [FinV]
        go_simp
        have hx5 : Ext wr w5 := hx5
        have HX5 := Lib.hid (HE.out.trans hx5)
        clear hx5 hS y0 y1 a2 a3 heq hd
        go_wp2
        exact ⟨⟨k + 1, HLT.out, by go_num, HN2.out, HX5.out⟩, by have := HLT.out; simp [intOf]; omega⟩
    · obtain rfl : k = l.length := by omega
      have q1 : ¬ (l.length : Int) < (l.length : Int) := by omega
      have HR := Lib.hid (HPN.out (by have := HNO.out; rw [List.take_length] at this; exact this))
      clear hext hk hlt
      go_wp2
      go_ret
      exact ⟨by rw [HR.out]; rfl, HX0.out.trans HE.out⟩
end Go.Proofs.Ytpmikcklkddocaa
namespace Go.Proofs.Ytpmikcklkddocaa
open Go.RowKit Go.Ox Go.Ox.Gr
set_option linter.unusedVariables false
set_option linter.unusedSimpArgs false

/-- a port: a place, a number -/
abbrev Po := Pl × Int
instance encPo : Enc Po where
  k := 3
  enc x := [.int .i64 x.1.1, .int .i64 x.1.2, .int .i64 x.2]
  len _ := rfl
  pos := by omega
  one x u hu := by simp at hu; rcases hu with rfl | rfl | rfl <;> rfl
theorem rp3 {w : World} {A : Option Addr} {n c : Nat} {l : List Po} (h : RE w (.slice A n c) l) {k : Nat} (hk : k < l.length) :
    ∃ b o, A = some ⟨b, o, none⟩ ∧ w.cell? ⟨b, o + k * 3, none⟩ = some (.int .i64 l[k].1.1) ∧ w.cell? ⟨b, o + k * 3 + 1, none⟩ = some (.int .i64 l[k].1.2) ∧ w.cell? ⟨b, o + k * 3 + 2, none⟩ = some (.int .i64 l[k].2) := by
  obtain ⟨b, o, e, h2⟩ := h.at_ hk
  exact ⟨b, o, e, h2 0 _ rfl, h2 1 _ rfl, h2 2 _ rfl⟩
def pB3 (a b c a' b' c' : Int) : Bool := decide (((a, b), c) = ((a', b'), c'))
theorem pB3_t {a b c a' b' c' : Int} (h : ((a, b), c) = ((a', b'), c')) : pB3 a b c a' b' c' = true := by unfold pB3; simpa using h
theorem pB3_f {a b c a' b' c' : Int} (h : ((a, b), c) ≠ ((a', b'), c')) : pB3 a b c a' b' c' = false := by unfold pB3; simpa using h
theorem eqInPl9 (a b c d : Int) (w : World) : (Op.equalIn 9999 35 (.agg #[.int .i64 a, .int .i64 b]) (.agg #[.int .i64 c, .int .i64 d])).run Try.prog w = .ok ((a == c) && (b == d)) w := by
  have u3 := Try.underlying3
  have a3 := Try.isAgg3
  have z3 := Try.sizeOf3
  have hS : Try.prog.underlying 35 = some (.struct (Try.prog.fieldsOf 35)) := by kernel_rfl
  have hp : Try.prog.stoodInHeld 35 = false := by kernel_rfl
  rw [show (9999 : Nat) = 9998 + 1 from rfl, run_equalIn_agg w 9998 35 _ _ hS hp]
  simp only [Program.fieldsOf, Try.underlying35]
  go_simp
  by_cases h1 : a = c <;> by_cases h2 : b = d <;> simp [h1, h2]
theorem eqInPo (a b c a' b' c' : Int) (w : World) : (Op.equalIn 10000 62 (.agg #[.int .i64 a, .int .i64 b, .int .i64 c]) (.agg #[.int .i64 a', .int .i64 b', .int .i64 c'])).run Try.prog w = .ok (pB3 a b c a' b' c') w := by
  have hS : Try.prog.underlying 62 = some (.struct (Try.prog.fieldsOf 62)) := by kernel_rfl
  have hp : Try.prog.stoodInHeld 62 = false := by kernel_rfl
  have h1 := eqInPl9
  have a1 := Try.isAgg35
  have z1 := Try.sizeOf35
  have u3 := Try.underlying3
  have a3 := Try.isAgg3
  have z3 := Try.sizeOf3
  rw [show (10000 : Nat) = 9999 + 1 from rfl, run_equalIn_agg w 9999 62 _ _ hS hp]
  simp only [Program.fieldsOf, Try.underlying62]
  go_simp
  unfold pB3
  by_cases q1 : a = a' <;> by_cases q2 : b = b' <;> by_cases q3 : c = c' <;> simp [q1, q2, q3]
theorem nePo (a b c a' b' c' : Int) (w : World) : (binOp .neq 62 (.agg #[.int .i64 a, .int .i64 b, .int .i64 c]) (.agg #[.int .i64 a', .int .i64 b', .int .i64 c'])).run Try.prog w = .ok (.bool (!pB3 a b c a' b' c')) w := by
  rw [run_neq_struct, eqInPo]; rfl
attribute [local irreducible] RE OE NodesR
set_option maxRecDepth 100000 in
set_option maxHeartbeats 2000000 in
theorem samePo_any (v u : Value) (l r : List Po) (w : World) (hv : RE w v l) (hu : RE w u r) (hl : l.length ≤ 1000000) :
    Calls Try.prog 25 #[v, u] w fun e w' => e = .returned (.bool (decide (l = r))) ∧ Ext w w' := by
  obtain ⟨A, c, rfl⟩ := hv.form
  obtain ⟨B, d, rfl⟩ := hu.form
  by_cases hlen : l.length = r.length
  case neg =>
    have hb : ((l.length : Int) != (r.length : Int)) = true := by simp; omega
    rw [decide_eq_false (fun e => hlen (by rw [e]))]
    clear hlen hv hu
    go_enter Try.func25, Try.ntmps25
    go_wp2
    go_ret
    exact ⟨rfl, Ext.refl _⟩
  have hb : ((l.length : Int) != (r.length : Int)) = false := by simp; omega
  have HV := Lib.hid hv
  have HU := Lib.hid hu
  have HL := Lib.hid hl
  have HLEN := Lib.hid hlen
  have HRT := Lib.hid (show l = r → decide (l = r) = true from fun h => decide_eq_true h)
  have HRF := Lib.hid (show l ≠ r → decide (l = r) = false from fun h => decide_eq_false h)
  generalize decide (l = r) = R at *
  clear hv hu hl hlen
  go_enter Try.func25, Try.ntmps25
  go_wp2
  clear hb
  go_loopw [5] (fun iv wr => ∃ k : Nat, k ≤ l.length ∧ iv = .int .i64 (k : Int) ∧ l.take k = r.take k ∧ Ext w wr) (fun iv _ => l.length - (intOf iv).toNat)
  case atStart => exact ⟨0, Nat.zero_le _, rfl, rfl, Ext.refl _⟩
  case round =>
    obtain ⟨k, hk, rfl, hp, hext⟩ := hrel
    have HP := Lib.hid hp
    have HE := Lib.hid hext
    have hkb : k ≤ 1000000 := by have := HL.out; omega
    clear hp
    by_cases hlt : k < l.length
    · have q1 : (k : Int) < (l.length : Int) := by omega
      have q0 : 0 ≤ (k : Int) := by omega
      have q1n : k < l.length := hlt
      have q2n : k < r.length := by have := HLEN.out; omega
      have q2 : (k : Int) < (r.length : Int) := by omega
      have HLT := Lib.hid hlt
      obtain ⟨bA, oA, rfl, x0, x1, x2⟩ := rp3 (HV.out.ext hext) hlt
      obtain ⟨bB, oB, rfl, y0, y1, y2⟩ := rp3 (HU.out.ext hext) q2n
      have HEQ := Lib.hid (list_eq_s hlt q2n HP.out)
      have HNE := Lib.hid (list_ne_s hlt q2n)
      generalize l[k] = x at *
      generalize r[k] = y at *
      obtain ⟨⟨xa, xb⟩, xc⟩ := x
      obtain ⟨⟨ya, yb⟩, yc⟩ := y
      dsimp only at x0 x1 x2 y0 y1 y2
      have heq := nePo
      clear hext hlt hk
      by_cases hq : ((xa, xb), xc) = ((ya, yb), yc)
      · have hd := pB3_t hq
        have HT := Lib.hid (HEQ.out hq)
        clear hq
        go_wp2
        refine wp_regionY [] [] Ext Ext (fun _ => True) (by kernel_rfl) (by rfl) (by rfl) (by kernel_rfl) (by kernel_rfl) (by kernel_rfl) (fun _ _ _ x y => x.trans y) Ext.refl (fun _ _ x => x) (Ext.refl _).drew (fun _ _ x _ => x) trivial ?_
        repeat (first | (refine wpY_move0 rfl rfl (by first | exact runs0 | exact runs1 rfl) Ext.refl rfl rfl rfl ?_; apply Exists.intro; refine ⟨?_, ?_⟩; · (go_simp; rfl)) | (refine wpY_move rfl rfl (by first | exact runs0 | exact runs1 rfl) Ext.refl rfl rfl rfl (fun _ _ _ h _ => h) ?_) | (refine wpY_val rfl rfl (by first | exact runs0 | exact runs1 rfl) Ext.refl rfl ?_; apply Exists.intro; refine ⟨?_, ?_⟩; · (intro a w' hR; intro h1; (first | (have e1 : _ = _ := h1) | skip); intro h2; (first | (have e2 : _ = _ := h2) | skip); go_simp; rfl)) | (refine wpY_val rfl rfl (by first | exact runs0 | exact runs1 rfl) Ext.refl rfl ?_; apply Exists.intro; refine ⟨?_, ?_⟩; · (intro a w' hR; intro h1; (first | (have e1 : _ = _ := h1) | skip); go_simp; rfl)) | (refine wpY_val rfl rfl (by first | exact runs0 | exact runs1 rfl) Ext.refl rfl ?_; apply Exists.intro; refine ⟨?_, ?_⟩; · (intro a w' hR; go_simp; rfl)) | (refine wpY_val rfl rfl (by first | exact runs0 | exact runs1 rfl) Ext.refl rfl ?_; apply Exists.intro; refine ⟨?_, ?_⟩; · (intro a w' hR; intro h1; (first | (have e1 : _ = _ := h1) | skip); intro h2; (first | (have e2 : _ = _ := h2) | skip); intro h3; (first | (have e3 : _ = _ := h3) | skip); go_simp; rfl)) | (refine wpY_skip rfl rfl (by first | exact .inl rfl | exact .inr rfl) ?_))
        refine wpY_val rfl rfl (by first | exact runs0 | exact runs1 rfl) Ext.refl rfl ?_; apply Exists.intro; refine ⟨?_, ?_⟩
        · intro a w' hR h1
          have e1 : _ = _ := h1
          have hl0 := hR.cell x0
          have hl1 := hR.cell x1
          have hl2 := hR.cell x2
          go_simp
          rfl
        repeat (first | (refine wpY_move0 rfl rfl (by first | exact runs0 | exact runs1 rfl) Ext.refl rfl rfl rfl ?_; apply Exists.intro; refine ⟨?_, ?_⟩; · (go_simp; rfl)) | (refine wpY_move rfl rfl (by first | exact runs0 | exact runs1 rfl) Ext.refl rfl rfl rfl (fun _ _ _ h _ => h) ?_) | (refine wpY_val rfl rfl (by first | exact runs0 | exact runs1 rfl) Ext.refl rfl ?_; apply Exists.intro; refine ⟨?_, ?_⟩; · (intro a w' hR; intro h1; (first | (have e1 : _ = _ := h1) | skip); intro h2; (first | (have e2 : _ = _ := h2) | skip); go_simp; rfl)) | (refine wpY_val rfl rfl (by first | exact runs0 | exact runs1 rfl) Ext.refl rfl ?_; apply Exists.intro; refine ⟨?_, ?_⟩; · (intro a w' hR; intro h1; (first | (have e1 : _ = _ := h1) | skip); go_simp; rfl)) | (refine wpY_val rfl rfl (by first | exact runs0 | exact runs1 rfl) Ext.refl rfl ?_; apply Exists.intro; refine ⟨?_, ?_⟩; · (intro a w' hR; go_simp; rfl)) | (refine wpY_val rfl rfl (by first | exact runs0 | exact runs1 rfl) Ext.refl rfl ?_; apply Exists.intro; refine ⟨?_, ?_⟩; · (intro a w' hR; intro h1; (first | (have e1 : _ = _ := h1) | skip); intro h2; (first | (have e2 : _ = _ := h2) | skip); intro h3; (first | (have e3 : _ = _ := h3) | skip); go_simp; rfl)) | (refine wpY_skip rfl rfl (by first | exact .inl rfl | exact .inr rfl) ?_))
        refine wpY_val rfl rfl (by first | exact runs0 | exact runs1 rfl) Ext.refl rfl ?_; apply Exists.intro; refine ⟨?_, ?_⟩
        · intro a w' hR h1
          have e1 : _ = _ := h1
          have hl0 := hR.cell y0
          have hl1 := hR.cell y1
          have hl2 := hR.cell y2
          go_simp
          rfl
        refine wpY_val rfl rfl (by first | exact runs0 | exact runs1 rfl) Ext.refl rfl ?_; apply Exists.intro; refine ⟨?_, ?_⟩
        · intro a w' hR h1 h2
          have e1 : _ = _ := h1
          have e2 : _ = _ := h2
          have hq9 := heq xa xb xc ya yb yc w'
          rw [hd] at hq9
          go_simp
          rfl
        refine wpY_done ?_
        intro w5 hx5 hS
        iterate 9 (rintro _ rfl)
        dsimp only [FinV]
        go_simp
        have hx5 : Ext wr w5 := hx5
        have HX5 := Lib.hid (HE.out.trans hx5)
        clear hx5 hS x0 x1 x2 y0 y1 y2 heq hd
        go_wp2
        exact ⟨⟨k + 1, HLT.out, by go_num, HT.out, HX5.out⟩, by have := HLT.out; simp [intOf]; omega⟩
      · have hd := pB3_f hq
        have HR := Lib.hid (HRF.out (HNE.out hq))
        clear hq
        go_wp2
        refine wp_regionY [] [] Ext Ext (fun _ => True) (by kernel_rfl) (by rfl) (by rfl) (by kernel_rfl) (by kernel_rfl) (by kernel_rfl) (fun _ _ _ x y => x.trans y) Ext.refl (fun _ _ x => x) (Ext.refl _).drew (fun _ _ x _ => x) trivial ?_
        repeat (first | (refine wpY_move0 rfl rfl (by first | exact runs0 | exact runs1 rfl) Ext.refl rfl rfl rfl ?_; apply Exists.intro; refine ⟨?_, ?_⟩; · (go_simp; rfl)) | (refine wpY_move rfl rfl (by first | exact runs0 | exact runs1 rfl) Ext.refl rfl rfl rfl (fun _ _ _ h _ => h) ?_) | (refine wpY_val rfl rfl (by first | exact runs0 | exact runs1 rfl) Ext.refl rfl ?_; apply Exists.intro; refine ⟨?_, ?_⟩; · (intro a w' hR; intro h1; (first | (have e1 : _ = _ := h1) | skip); intro h2; (first | (have e2 : _ = _ := h2) | skip); go_simp; rfl)) | (refine wpY_val rfl rfl (by first | exact runs0 | exact runs1 rfl) Ext.refl rfl ?_; apply Exists.intro; refine ⟨?_, ?_⟩; · (intro a w' hR; intro h1; (first | (have e1 : _ = _ := h1) | skip); go_simp; rfl)) | (refine wpY_val rfl rfl (by first | exact runs0 | exact runs1 rfl) Ext.refl rfl ?_; apply Exists.intro; refine ⟨?_, ?_⟩; · (intro a w' hR; go_simp; rfl)) | (refine wpY_val rfl rfl (by first | exact runs0 | exact runs1 rfl) Ext.refl rfl ?_; apply Exists.intro; refine ⟨?_, ?_⟩; · (intro a w' hR; intro h1; (first | (have e1 : _ = _ := h1) | skip); intro h2; (first | (have e2 : _ = _ := h2) | skip); intro h3; (first | (have e3 : _ = _ := h3) | skip); go_simp; rfl)) | (refine wpY_skip rfl rfl (by first | exact .inl rfl | exact .inr rfl) ?_))
        refine wpY_val rfl rfl (by first | exact runs0 | exact runs1 rfl) Ext.refl rfl ?_; apply Exists.intro; refine ⟨?_, ?_⟩
        · intro a w' hR h1
          have e1 : _ = _ := h1
          have hl0 := hR.cell x0
          have hl1 := hR.cell x1
          have hl2 := hR.cell x2
          go_simp
          rfl
        repeat (first | (refine wpY_move0 rfl rfl (by first | exact runs0 | exact runs1 rfl) Ext.refl rfl rfl rfl ?_; apply Exists.intro; refine ⟨?_, ?_⟩; · (go_simp; rfl)) | (refine wpY_move rfl rfl (by first | exact runs0 | exact runs1 rfl) Ext.refl rfl rfl rfl (fun _ _ _ h _ => h) ?_) | (refine wpY_val rfl rfl (by first | exact runs0 | exact runs1 rfl) Ext.refl rfl ?_; apply Exists.intro; refine ⟨?_, ?_⟩; · (intro a w' hR; intro h1; (first | (have e1 : _ = _ := h1) | skip); intro h2; (first | (have e2 : _ = _ := h2) | skip); go_simp; rfl)) | (refine wpY_val rfl rfl (by first | exact runs0 | exact runs1 rfl) Ext.refl rfl ?_; apply Exists.intro; refine ⟨?_, ?_⟩; · (intro a w' hR; intro h1; (first | (have e1 : _ = _ := h1) | skip); go_simp; rfl)) | (refine wpY_val rfl rfl (by first | exact runs0 | exact runs1 rfl) Ext.refl rfl ?_; apply Exists.intro; refine ⟨?_, ?_⟩; · (intro a w' hR; go_simp; rfl)) | (refine wpY_val rfl rfl (by first | exact runs0 | exact runs1 rfl) Ext.refl rfl ?_; apply Exists.intro; refine ⟨?_, ?_⟩; · (intro a w' hR; intro h1; (first | (have e1 : _ = _ := h1) | skip); intro h2; (first | (have e2 : _ = _ := h2) | skip); intro h3; (first | (have e3 : _ = _ := h3) | skip); go_simp; rfl)) | (refine wpY_skip rfl rfl (by first | exact .inl rfl | exact .inr rfl) ?_))
        refine wpY_val rfl rfl (by first | exact runs0 | exact runs1 rfl) Ext.refl rfl ?_; apply Exists.intro; refine ⟨?_, ?_⟩
        · intro a w' hR h1
          have e1 : _ = _ := h1
          have hl0 := hR.cell y0
          have hl1 := hR.cell y1
          have hl2 := hR.cell y2
          go_simp
          rfl
        refine wpY_val rfl rfl (by first | exact runs0 | exact runs1 rfl) Ext.refl rfl ?_; apply Exists.intro; refine ⟨?_, ?_⟩
        · intro a w' hR h1 h2
          have e1 : _ = _ := h1
          have e2 : _ = _ := h2
          have hq9 := heq xa xb xc ya yb yc w'
          rw [hd] at hq9
          go_simp
          rfl
        refine wpY_done ?_
        intro w5 hx5 hS
        iterate 9 (rintro _ rfl)
        dsimp only [FinV]
        go_simp
        have hx5 : Ext wr w5 := hx5
        have HX5 := Lib.hid (HE.out.trans hx5)
        clear hx5 hS x0 x1 x2 y0 y1 y2 heq hd
        go_wp2
        go_ret
        exact ⟨by rw [HR.out]; rfl, HX5.out⟩
    · obtain rfl : k = l.length := by omega
      have q1 : ¬ (l.length : Int) < (l.length : Int) := by omega
      have HR := Lib.hid (HRT.out (by have := HP.out; rw [List.take_length, HLEN.out, List.take_length] at this; exact this))
      clear hext hk hlt
      go_wp2
      go_ret
      exact ⟨by rw [HR.out]; rfl, HE.out⟩
end Go.Proofs.Ytpmikcklkddocaa
namespace Go.Ox.Gr
/-- of one node's inputs those that name it -/
def nmN (name : Int) (p : Int × Int) (ins : List Int) : List ((Int × Int) × Int) := ins.zipIdx.filterMap fun x => if x.1 = name then some (p, (x.2 : Int)) else none
theorem nmN_s (name : Int) (p : Int × Int) (ins : List Int) {k : Nat} (h : k < ins.length) : nmN name p (ins.take (k + 1)) = nmN name p (ins.take k) ++ (if ins[k] = name then [(p, (k : Int))] else []) := by
  unfold nmN
  rw [List.take_succ_eq_append_getElem h, List.zipIdx_append, List.filterMap_append]
  congr 1
  have : (ins.take k).length = k := by rw [List.length_take]; omega
  rw [this]
  by_cases q : ins[k] = name <;> simp [q]
theorem nmN_len (name : Int) (p : Int × Int) (ins : List Int) : (nmN name p ins).length ≤ ins.length := by
  unfold nmN
  refine Nat.le_trans (List.length_filterMap_le _ _) (by simp)
def nmFrom (name : Int) (f : Nat → Int × Int) : List Nd → Nat → List ((Int × Int) × Int)
  | [], _ => []
  | n :: l, i => nmN name (f i) n.ins ++ nmFrom name f l (i + 1)
def namedL (name : Int) (f : Nat → Int × Int) (l : List Nd) : List ((Int × Int) × Int) := nmFrom name f l 0
theorem nmFrom_app (name : Int) (f : Nat → Int × Int) : ∀ (l r : List Nd) (i : Nat), nmFrom name f (l ++ r) i = nmFrom name f l i ++ nmFrom name f r (i + l.length)
  | [], r, i => by simp [nmFrom]
  | n :: l, r, i => by
    simp only [List.cons_append, nmFrom, List.length_cons, nmFrom_app name f l r (i + 1), List.append_assoc]
    rw [show i + 1 + l.length = i + (l.length + 1) by omega]
theorem namedL_s (name : Int) (f : Nat → Int × Int) (l : List Nd) {k : Nat} (h : k < l.length) : namedL name f (l.take (k + 1)) = namedL name f (l.take k) ++ nmN name (f k) l[k].ins := by
  unfold namedL
  rw [List.take_succ_eq_append_getElem h, nmFrom_app, List.length_take, Nat.min_eq_left (by omega), Nat.zero_add]
  simp [nmFrom]
theorem nmFrom_len (name : Int) (f : Nat → Int × Int) : ∀ (l : List Nd) (i : Nat), (∀ n ∈ l, n.ins.length ≤ 100) → (nmFrom name f l i).length ≤ l.length * 100
  | [], _, _ => by simp [nmFrom]
  | n :: l, i, h => by
    have h1 := nmFrom_len name f l (i + 1) fun m hm => h m (List.mem_cons_of_mem _ hm)
    have h2 := h n List.mem_cons_self
    have h3 := nmN_len name (f i) n.ins
    unfold nmFrom
    rw [List.length_append, List.length_cons]
    omega
theorem namedL_len (name : Int) (f : Nat → Int × Int) (l : List Nd) (k : Nat) (h : ∀ n ∈ l, n.ins.length ≤ 100) (hl : l.length ≤ 100) : (namedL name f (l.take k)).length ≤ 10000 := by
  have := nmFrom_len name f (l.take k) 0 fun n hn => h n (List.mem_of_mem_take hn)
  rw [List.length_take] at this
  unfold namedL
  omega
end Go.Ox.Gr
namespace Go.Proofs.Ytpmikcklkddocaa
open Go.RowKit Go.Ox Go.Ox.Gr
set_option linter.unusedVariables false
set_option linter.unusedSimpArgs false
attribute [local irreducible] RE OE NodesR

theorem elemPo : Elem Try.prog 43 62 (.agg #[.int .i64 0, .int .i64 0, .int .i64 0]) 3 24 := Elem.mk' Try.underlying43 (by kernel_rfl) rfl (by omega)
set_option maxRecDepth 100000 in
set_option maxHeartbeats 8000000 in
theorem named_any (name : Int) (f : Nat → Pl) (g : Nat) (lb : Array Value) (eg : ∀ args w, (callFunc g args).run Try.prog w = .ok (.enter g args) w) (d : Nat) (v : Value) (l : List Nd) (w : World) (hv : NodesR d w v l) (hl : l.length ≤ 100) (hil : ∀ n ∈ l, n.ins.length ≤ 100)
    (hcl : ∀ (i : Nat) W, Ext w W → Calls Try.prog g (#[.int .i64 (i : Int)] ++ lb) W fun e W' => e = .returned (plV (f i)) ∧ Ext W W') :
    Calls Try.prog 42 #[v, .int .i64 name, .func (.func g) #[] lb] w fun e w' => ∃ u, e = .returned u ∧ OE 62 w.heap.size w' u (namedL name f l) ∧ Ext w w' := by
  obtain ⟨A, c, rfl⟩ := hv.form
  have HV := Lib.hid hv
  have HL := Lib.hid hl
  have HIL := Lib.hid (fun (k : Nat) (h : k < l.length) => hil l[k] (List.getElem_mem h))
  have HPL := Lib.hid (fun k => namedL_len name f l k hil hl)
  have HCL := Lib.hid hcl
  clear hv hl hil hcl
  go_enter Try.func42, Try.ntmps42
  go_wp2
  go_loopw [7, 14] (fun o iv wr => ∃ k : Nat, k ≤ l.length ∧ iv = .int .i64 (k : Int) ∧ OE 62 w.heap.size wr o (namedL name f (l.take k)) ∧ Ext w wr) (fun _ iv _ => l.length - (intOf iv).toNat)
  case atStart => exact ⟨0, Nat.zero_le _, rfl, OE.nilS _ _ _, Ext.refl _⟩
  case round =>
    obtain ⟨k, hk, rfl, ho, hext⟩ := hrel
    have HE := Lib.hid hext
    have HO := Lib.hid ho
    obtain ⟨AO, cO, hvo⟩ := ho.re.form
    have hk100 : k ≤ 100 := by have := HL.out; omega
    by_cases hlt : k < l.length
    · have q1 : (k : Int) < (l.length : Int) := by omega
      have q0 : 0 ≤ (k : Int) := by omega
      have q1n : k < l.length := hlt
      have HLT := Lib.hid hlt
      obtain ⟨bA, oA, u, bv, rfl, e0, e1, e2, e3, e4, e5, hu, hbv⟩ := HV.out.at_ hlt
      have HS := Lib.hid (namedL_s name f l hlt)
      have HIK := Lib.hid (HIL.out k hlt)
      have HPK1 := Lib.hid (HPL.out (k + 1))
      rw [HS.out] at HPK1
      generalize l[k] = x at *
      obtain ⟨op, ins, kind, fa, a, body⟩ := x
      simp only [Nd.op, Nd.kind, Nd.fa, Nd.a, Nd.ins, Nd.body] at e0 e2 e3 e4 hu hbv
      have e0 := hext.cell e0
      have e1 := hext.cell e1
      have e2 := hext.cell e2
      have e3 := hext.cell e3
      have e4 := hext.cell e4
      have e5 := hext.cell e5
      replace HS := Lib.hid (show namedL name f (l.take (k + 1)) = namedL name f (l.take k) ++ nmN name (f k) ins from HS.out)
      replace HIK := Lib.hid (show ins.length ≤ 100 from HIK.out)
      replace HPK1 := Lib.hid (show (namedL name f (l.take k) ++ nmN name (f k) ins).length ≤ 10000 from HPK1.out)
      generalize namedL name f (l.take k) = pl at *
      subst hvo
      have HU := Lib.hid hu
      obtain ⟨Au, cu, rfl⟩ := hu.form
      obtain ⟨Ab, cb, rfl⟩ := hbv.form
      have hxn := (Ext.refl wr).alloc (ndCs op kind fa a (.slice Au ins.length cu) (.slice Ab body.length cb))
      have HXN := Lib.hid (HE.out.trans hxn)
      have HON := Lib.hid (ho.ext hxn)
      obtain ⟨y0, y1, y2, y3, y4, y5⟩ := (Bx6.new wr 40 (.int .i64 op) (.slice Au ins.length cu) (.int .i64 kind) (.int .i64 fa) (.int .i64 a) (.slice Ab body.length cb)).at_
      clear ho hext hlt hk hu hbv hxn
      go_upto_region 5 with fail
      clear e0 e1 e2 e3 e4 e5
      generalize wr.heap.size = q at *
      generalize wr.alloc (ndCs op kind fa a (.slice Au ins.length cu) (.slice Ab body.length cb)) = wn at *
      go_wp2
      clear y0 y1 y2 y3 y4 y5
      go_loopw [7, 22] (fun o iv wx => ∃ j : Nat, j ≤ ins.length ∧ iv = .int .i64 (j : Int) ∧ OE 62 w.heap.size wx o (pl ++ nmN name (f k) (ins.take j)) ∧ Ext w wx) (fun _ iv _ => ins.length - (intOf iv).toNat)
      case atStart => exact ⟨0, Nat.zero_le _, rfl, by rw [show nmN name (f k) (ins.take 0) = [] from rfl, List.append_nil]; exact HON.out, HXN.out⟩
      case round =>
        obtain ⟨j, hj, rfl, ho, hext⟩ := hrel
        rename World => wx
        have HE2 := Lib.hid hext
        have HO2 := Lib.hid ho
        obtain ⟨AP, cP, hvo⟩ := ho.re.form
        have hj100 : j ≤ 100 := by have := HIK.out; omega
        by_cases hlt : j < ins.length
        · have r1 : (j : Int) < (ins.length : Int) := by omega
          have r0 : 0 ≤ (j : Int) := by omega
          have r1n : j < ins.length := hlt
          have HJT := Lib.hid hlt
          obtain ⟨bI, oI, rfl, z0⟩ := ri1 (RE.ext HU.out hext) hlt
          have HSJ := Lib.hid (nmN_s name (f k) ins hlt)
          have HPJ := Lib.hid (show (pl ++ nmN name (f k) (ins.take j)).length ≤ 20100 by have h1 := HPK1.out; have h2 := nmN_len name (f k) (ins.take j); rw [List.length_append] at h1 ⊢; rw [List.length_take] at h2; omega)
          have HFK := Lib.hid (HCL.out k wx hext)
          generalize ins[j] = x at *
          generalize f k = fp at *
          obtain ⟨pa, pb⟩ := fp
          clear hext hlt hj
          by_cases hq : x = name
          · rw [if_pos hq] at HSJ
            subst hq
            have HAS := Lib.hid (show pl ++ nmN x (pa, pb) (ins.take (j + 1)) = (pl ++ nmN x (pa, pb) (ins.take j)) ++ [((pa, pb), (j : Int))] by rw [HSJ.out, List.append_assoc])
            generalize pl ++ nmN x (pa, pb) (ins.take j) = pj at *
            subst hvo
            go_wp2_with fail
            refine HFK.out.mono ?_
            rintro e w8 ⟨rfl, he8⟩
            have HL1 := Lib.hid (RE.lit w8 #[.int .i64 pa, .int .i64 pb, .int .i64 (j : Int)] 62 1 [(((pa, pb), (j : Int)) : Po)] rfl (by omega) rfl)
            have HXA := Lib.hid ((Ext.refl w8).alloc (.cells #[.int .i64 pa, .int .i64 pb, .int .i64 (j : Int)] 62))
            have HOL := Lib.hid ((HO2.out.ext he8).ext HXA.out)
            have HXB := Lib.hid ((HE2.out.trans he8).trans HXA.out)
            clear ho he8 z0
            go_wp2_with (at_builtin; refine wpList_appE rfl elemPo _ _ _ rfl w.heap.size _ _ pj [(((pa, pb), (j : Int)) : Po)] rfl HOL.out rfl HL1.out (by have := HPJ.out; simp; omega) (by have := HPJ.out; unfold maxLen; simp; omega) HXB.out.size ?_; intro v9 w9 ho9 hg9 hat9)
            have HX9 := Lib.hid (HXB.out.grown hat9 fun g hg => (HOL.out.own.lt g hg).1)
            have HO9 := Lib.hid ho9
            clear ho9 hg9 hat9
            go_wp2
            exact ⟨⟨j + 1, HJT.out, by go_num, by rw [HAS.out]; exact HO9.out, HX9.out⟩, by have := HJT.out; simp [intOf]; omega⟩
          · rw [if_neg hq, List.append_nil] at HSJ
            have hqb : (x == name) = false := by simpa using hq
            have HAS := Lib.hid (show pl ++ nmN name (pa, pb) (ins.take (j + 1)) = pl ++ nmN name (pa, pb) (ins.take j) by rw [HSJ.out])
            clear hq ho
            go_wp2_with fail
            exact ⟨⟨j + 1, HJT.out, by go_num, by rw [HAS.out]; exact HO2.out, HE2.out⟩, by have := HJT.out; simp [intOf]; omega⟩
        · obtain rfl : j = ins.length := by omega
          have r1 : ¬ (ins.length : Int) < (ins.length : Int) := by omega
          rw [List.take_length] at HO2
          clear ho hext hj hlt
          go_wp2
          exact ⟨⟨k + 1, HLT.out, by go_num, by rw [HS.out]; exact HO2.out, HE2.out⟩, by have := HLT.out; simp [intOf]; omega⟩
    · obtain rfl : k = l.length := by omega
      have q1 : ¬ (l.length : Int) < (l.length : Int) := by omega
      rw [List.take_length] at HO
      clear ho hext hk hlt hvo
      go_wp2
      go_ret
      exact ⟨_, rfl, HO.out, HE.out⟩
end Go.Proofs.Ytpmikcklkddocaa
