/-
  LaSame, LaPlain, ScrLineR, packed: what the claim needs of them.
-/
import Derived.Test.YtpmgmiiidfconaaGreatDoorPz43
import Derived.Test.YtpmgmiiidfconaaGreatDoorPz42
import Derived.Test.YtpmgmiiidfconaaGreatDoorPz19
import Derived.Deep.DeepCutAuto
import Derived.Test.YtpmgmiiidfconaaGreatDoorPz13
set_option linter.unusedVariables false
set_option linter.unusedSimpArgs false
namespace Go.Ox.La
open Go Go.Lib Go.Ox Go.RowKit Go.Ox.Sc
def scA (g : Sc.Act) : Sc.Sc := ⟨(0, 0, 0, 0), ([], 0), [], [g]⟩
theorem scA_sm {g : Sc.Act} (h : g.2.length ≤ 1000000) : ScSm (scA g) := ⟨by simp [scA], by simp [scA], by simp [scA], by
  intro a ha
  obtain rfl : a = g := by simpa [scA] using ha
  exact h⟩
theorem scA_nrm {g h : Sc.Act} : nrm (scA g) = nrm (scA h) ↔ g = h := by
  unfold nrm scA
  simp
end Go.Ox.La
namespace Go.Proofs.YtpmgmiiidfconaaGreatDoor
open Go.RowKit Go.Ox Go.Ox.Gr Go.Ox.Sc Go.Ox.La Go.Shelf
theorem acts_one (w : World) (k n a b t : Int) (A : Option Addr) (c : Nat) (ks : List Int) (h : RE w (.slice A ks.length c) ks) :
    ActsR (w.alloc (actCs k n a b t (.slice A ks.length c))) (.slice (some ⟨w.heap.size, 0, none⟩) 1 1) [((k, n, a, b, t), ks)] := by
  refine ⟨[[.int .i64 k, .int .i64 n, .int .i64 a, .int .i64 b, .int .i64 t, .slice A ks.length c]], Rd.lit w #[.int .i64 k, .int .i64 n, .int .i64 a, .int .i64 b, .int .i64 t, .slice A ks.length c] 24 1 rfl (by unfold maxLen; omega), rfl, fun i r x hr hx => ?_⟩
  match i, hr, hx with
  | 0, hr, hx =>
    simp at hr hx
    subst hr hx
    exact ⟨rfl, _, rfl, RE.ext h ((Ext.refl _).alloc _)⟩
  | n + 1, hr, hx => simp at hr
theorem EqP.to {α β : Type} {x y : α} {x' y' : β} {D : Bool} {w w' : World} {e : Ending} (hD : D = true ↔ x = y) (hi : x' = y' ↔ x = y) (h : EqP x' y' w e w') : e = .returned (.bool D) ∧ Ext w w' := by
  obtain ⟨b, rfl, hb, hx⟩ := h
  have : b = D := by
    cases b <;> cases D <;> simp_all
  exact ⟨by rw [this], hx⟩
attribute [local irreducible] RE OE ActsR NodesR InsR
set_option maxRecDepth 100000 in
set_option maxHeartbeats 8000000 in
theorem sameAct_any (g h : Sc.Act) (u v : Value) (w : World) (hu : RE w u g.2) (hv : RE w v h.2) (hl : g.2.length ≤ 1000000) (hl2 : h.2.length ≤ 1000000) (D : Bool) (hD : D = true ↔ g = h) :
    Calls Tryz.prog 9 #[actAg g.1.1 g.1.2.1 g.1.2.2.1 g.1.2.2.2.1 g.1.2.2.2.2 u, actAg h.1.1 h.1.2.1 h.1.2.2.1 h.1.2.2.2.1 h.1.2.2.2.2 v] w fun e w' => e = .returned (.bool D) ∧ Ext w w' := by
  have HS := Lib.hid (scA_sm hl)
  have HT := Lib.hid (scA_sm hl2)
  have HC := Lib.hid (fun W a c b d (h1 : ActsR W (.slice a 1 c) [g]) (h2 : ActsR W (.slice b 1 d) [h]) => rSame26_any 2 2 (scA g) (scA h) (.slice none 0 0) (.slice none 0 0) (.slice a 1 c) (.slice none 0 0) (.slice none 0 0) (.slice b 1 d) W ⟨NodesR.nil _ _, InsR.nil _, h1⟩ ⟨NodesR.nil _ _, InsR.nil _, h2⟩ HS.out HT.out (Sm.nil _) |>.mono fun e w' q => EqP.to hD scA_nrm q)
  obtain ⟨⟨k, n, a, b, t⟩, ks⟩ := g
  obtain ⟨⟨k', n', a', b', t'⟩, ks'⟩ := h
  dsimp only at *
  obtain ⟨A, c, rfl⟩ := hu.form
  obtain ⟨A', c', rfl⟩ := hv.form
  have hx2 : Ext w ((w.alloc (actCs k n a b t (.slice A ks.length c))).alloc (actCs k' n' a' b' t' (.slice A' ks'.length c'))) := ((Ext.refl w).alloc _).alloc _
  have hq := (Bx6.new w 24 (.int .i64 k) (.int .i64 n) (.int .i64 a) (.int .i64 b) (.int .i64 t) (.slice A ks.length c)).ext ((Ext.refl _).alloc (actCs k' n' a' b' t' (.slice A' ks'.length c')))
  have hr := Bx6.new (w.alloc (actCs k n a b t (.slice A ks.length c))) 24 (.int .i64 k') (.int .i64 n') (.int .i64 a') (.int .i64 b') (.int .i64 t') (.slice A' ks'.length c')
  have HX := Lib.hid hx2
  have HU := Lib.hid (And.intro (RE.ext hu hx2) (RE.ext hv hx2))
  obtain ⟨c0, c1, c2, c3, c4, c5⟩ := hq.at_
  have HR := Lib.hid hr.at_
  have hsz : (w.alloc (actCs k n a b t (.slice A ks.length c))).heap.size = w.heap.size + 1 := by simp
  rw [hsz] at HR
  clear hu hv hx2 hq hr hl hl2 hsz hD
  go_enter Tryz.func9, Tryz.ntmps9
  go_upto_region 1 with fail
  obtain ⟨d0, d1, d2, d3, d4, d5⟩ := HR.out
  clear HR
  generalize (w.alloc (actCs k n a b t (.slice A ks.length c))).alloc (actCs k' n' a' b' t' (.slice A' ks'.length c')) = w2 at *
  have hal := (Ext.refl w2).alloc (actCs k n a b t (.slice A ks.length c))
  have HA1 := Lib.hid ((acts_one w2 k n a b t A c ks (RE.ext HU.out.1 (Ext.refl _))).ext ((Ext.refl _).alloc (actCs k' n' a' b' t' (.slice A' ks'.length c'))))
  have HA2 := Lib.hid (acts_one (w2.alloc (actCs k n a b t (.slice A ks.length c))) k' n' a' b' t' A' c' ks' (RE.ext HU.out.2 hal))
  have HX3 := Lib.hid (hal.alloc (actCs k' n' a' b' t' (.slice A' ks'.length c')))
  have d0 := hal.cell d0
  have d1 := hal.cell d1
  have d2 := hal.cell d2
  have d3 := hal.cell d3
  have d4 := hal.cell d4
  have d5 := hal.cell d5
  have hsz : (w2.alloc (actCs k n a b t (.slice A ks.length c))).heap.size = w2.heap.size + 1 := by simp
  rw [hsz] at HA2
  clear hal hsz
  go_wp2_with fail
  refine (HC.out _ _ _ _ _ HA1.out HA2.out).mono ?_
  rintro e w3 ⟨rfl, he⟩
  have HE := Lib.hid (HX.out.trans (HX3.out.trans he))
  clear he
  go_wp2
  go_ret
  exact ⟨rfl, HE.out⟩
end Go.Proofs.YtpmgmiiidfconaaGreatDoor
set_option linter.unusedVariables false
set_option linter.unusedSimpArgs false
namespace Go.Proofs.YtpmgmiiidfconaaGreatDoor
open Go Go.Lib Go.RowKit Go.Ox Go.Ox.Gr Go.Ox.Sc Go.Ox.La Go.Shelf
theorem dec_ofNat {r : Nat} (h : r < 10) : (UInt8.ofNat (48 + r)).toNat = 48 + r := by
  simp; omega
theorem dec_dig : ∀ (n : Nat) (c : UInt8), c ∈ Lib.decDigits n → 48 ≤ c.toNat ∧ c.toNat ≤ 57 := by
  intro n
  induction n using Nat.strongRecOn with
  | _ n ih =>
    intro c hc
    by_cases h : n < 10
    · rw [dec_small h] at hc
      obtain rfl : c = _ := List.mem_singleton.1 hc
      rw [dec_ofNat h]; omega
    · rw [dec_step h] at hc
      rcases List.mem_append.1 hc with hc | hc
      · exact ih _ (by omega) c hc
      · obtain rfl : c = _ := List.mem_singleton.1 hc
        rw [dec_ofNat (by omega)]; omega
theorem dec_val : ∀ (n : Nat), wnV (Lib.decDigits n) = n := by
  intro n
  induction n using Nat.strongRecOn with
  | _ n ih =>
    by_cases h : n < 10
    · rw [dec_small h]
      show 10 * 0 + ((UInt8.ofNat (48 + n)).toNat - 48) = n
      rw [dec_ofNat h]; omega
    · rw [dec_step h, wnV_snoc, ih _ (by omega), dec_ofNat (by omega)]; omega
theorem dec_ne (n : Nat) : Lib.decDigits n ≠ [] := by
  by_cases h : n < 10
  · rw [dec_small h]; simp
  · rw [dec_step h]; simp
theorem dec_len10 : ∀ (k n : Nat), n < 10 ^ (k + 1) → (Lib.decDigits n).length ≤ k + 1 := by
  intro k
  induction k with
  | zero => intro n h; rw [dec_small (by omega)]; simp
  | succ k ih =>
    intro n h
    by_cases h1 : n < 10
    · rw [dec_small h1]; simp
    · rw [dec_step h1, List.length_append]
      have := ih (n / 10) (by rw [Nat.pow_succ] at h; omega)
      simp; omega
theorem dec_first : ∀ (n : Nat), 0 < n → (Lib.decDigits n).getD 0 0 ≠ 48 := by
  intro n
  induction n using Nat.strongRecOn with
  | _ n ih =>
    intro hn
    by_cases h : n < 10
    · rw [dec_small h]
      intro e
      have e2 : UInt8.ofNat (48 + n) = 48 := by simpa using e
      have := congrArg UInt8.toNat e2
      rw [dec_ofNat h] at this
      have h2 : (48 : UInt8).toNat = 48 := rfl
      omega
    · have h1 := ih (n / 10) (by omega) (by omega)
      rw [dec_step h]
      have h2 : 0 < (Lib.decDigits (n / 10)).length := List.length_pos_iff.2 (dec_ne _)
      rwa [List.getD_eq_getElem?_getD, List.getElem?_append_left h2, ← List.getD_eq_getElem?_getD]
theorem dec_wn {n : Nat} (h : n < 10000000000) : wnB (Lib.decDigits n) = ((n : Int), true) := by
  have h1 : (Lib.decDigits n).all digB = true := by
    rw [List.all_eq_true]
    intro c hc
    have := dec_dig n c hc
    unfold digB
    rw [decide_eq_true this.1, decide_eq_true this.2]; rfl
  have h2 : wnF (Lib.decDigits n) = true := by
    unfold wnF
    have h3 := List.length_pos_iff.2 (dec_ne n)
    have h4 := dec_len10 9 n (by omega)
    rw [decide_eq_true (by omega), decide_eq_true (by omega)]
    by_cases h5 : n = 0
    · subst h5
      rw [show (Lib.decDigits 0).length = 1 from by rw [dec_small (by omega)]; rfl]
      simp
    · rw [decide_eq_true (dec_first n (by omega))]; rfl
  unfold wnB
  rw [if_pos ⟨h2, h1⟩, dec_val]
/-- a word that is no blank and no '#' -/
def plainW (x : W) : Prop := x ≠ [] ∧ ∀ c ∈ x, c.toNat ≠ 35 ∧ blankB c = false
theorem dec_plain (n : Nat) : plainW (Lib.decDigits n) := ⟨dec_ne n, fun c hc => by
  have := dec_dig n c hc
  refine ⟨by omega, ?_⟩
  unfold blankB
  simp
  omega⟩
theorem splitW_app : ∀ (x acc r : W), (∀ c ∈ x, c.toNat ≠ 35 ∧ blankB c = false) → splitW (x ++ r) acc = splitW r (acc ++ x)
  | [], acc, r, _ => by simp
  | c :: x, acc, r, h => by
    have hc := h c (List.mem_cons_self ..)
    rw [List.cons_append]
    show (if c.toNat = 35 then _ else if blankB c = true then _ else splitW (x ++ r) (acc ++ [c])) = _
    rw [if_neg hc.1, if_neg (by rw [hc.2]; decide), splitW_app x (acc ++ [c]) r fun d hd => h d (List.mem_cons_of_mem _ hd)]
    simp
theorem words_line (x : W) (hx : plainW x) : ∀ (l : List W), (∀ y ∈ l, plainW y) → wordsL (x ++ l.flatMap fun y => 32 :: y) = x :: l := by
  intro l
  unfold wordsL
  rw [splitW_app _ _ _ hx.2, List.nil_append]
  induction l generalizing x with
  | nil =>
    intro _
    show flush x = [x]
    exact flush_cons hx.1
  | cons y l ih =>
    intro hl
    rw [List.flatMap_cons, List.cons_append]
    show (if (32 : UInt8).toNat = 35 then _ else if blankB 32 = true then flush x ++ splitW (y ++ _) [] else _) = _
    rw [if_neg (by decide), if_pos (by decide), flush_cons hx.1]
    have hy := hl y (List.mem_cons_self ..)
    rw [splitW_app _ _ _ hy.2, List.nil_append, ih y hy fun z hz => hl z (List.mem_cons_of_mem _ hz)]
    rfl
theorem words_nums (x : W) (hx : plainW x) (l : List Int) : wordsL (x ++ l.flatMap fun n => 32 :: Lib.decDigits n.toNat) = x :: l.map fun n => Lib.decDigits n.toNat := by
  have := words_line x hx (l.map fun n => Lib.decDigits n.toNat) (fun y hy => by
    obtain ⟨n, _, rfl⟩ := List.mem_map.1 hy
    exact dec_plain _)
  rw [← this, List.flatMap_map]
theorem nums_back (l : List Int) (h : ∀ n ∈ l, 0 ≤ n ∧ n < 10000000000) : wnsB (l.map fun n => Lib.decDigits n.toNat) = l ∧ wnsOk (l.map fun n => Lib.decDigits n.toNat) = true := by
  induction l with
  | nil => exact ⟨rfl, rfl⟩
  | cons n l ih =>
    have hn := h n (List.mem_cons_self ..)
    have h1 := ih fun m hm => h m (List.mem_cons_of_mem _ hm)
    have h2 := dec_wn (n := n.toNat) (by omega)
    constructor
    · show (wnB (Lib.decDigits n.toNat)).1 :: wnsB (l.map _) = _
      rw [h2, h1.1]
      show ((n.toNat : Nat) : Int) :: l = n :: l
      rw [Int.toNat_of_nonneg hn.1]
    · show ((wnB (Lib.decDigits n.toNat)).2 && wnsOk (l.map _)) = true
      rw [h2, h1.2]; rfl
theorem actL_line {w : W} (hw : plainW w) (l : List Int) (h : ∀ n ∈ l, 0 ≤ n ∧ n < 10000000000) (hk : actOk (mkAct w l) = true) : La.actL (wordsL (w ++ l.flatMap fun n => 32 :: Lib.decDigits n.toNat)) = some (mkAct w l) := by
  rw [words_nums w hw]
  have h2 := nums_back l h
  have := actL_yes (x := w) (l := l.map fun n => Lib.decDigits n.toNat) h2.2 (by rw [h2.1]; exact hk)
  rw [h2.1] at this
  exact this
theorem inR_b {n m : Int} (h : inR n m = true) : 0 ≤ n ∧ n ≤ m := by
  unfold inR at h
  rw [Bool.and_eq_true, decide_eq_true_eq, decide_eq_true_eq] at h
  exact h
theorem act_back {g : Sc.Act} (h : actOk g = true) : ∃ x, La.actL (wordsL (actS g)) = some x ∧ x.1.1 = g.1.1 := by
  obtain ⟨⟨k, n, a, b, t⟩, ks⟩ := g
  have h0 := h
  unfold actOk at h0
  simp only [Bool.and_eq_true, decide_eq_true_eq] at h0
  obtain ⟨⟨⟨⟨⟨⟨⟨hk1, hk2⟩, hn⟩, ha⟩, hb⟩, ht⟩, hl⟩, hks⟩ := h0
  have bn := inR_b hn
  have ba := inR_b ha
  have bb := inR_b hb
  have bt := inR_b ht
  rw [List.all_eq_true] at hks
  unfold actS
  rw [if_pos h]
  dsimp only at *
  by_cases e1 : k = 1
  · subst e1
    rw [if_pos rfl]
    refine ⟨_, actL_line (w := [112, 105, 99, 107]) ⟨by decide, by decide⟩ [n, a] (fun x hx => by simp at hx; omega) ?_, rfl⟩
    show actOk ((1, n, a, 0, 0), []) = true
    unfold actOk
    simp [inR]; omega
  rw [if_neg e1]
  by_cases e2 : k = 2
  · subst e2
    rw [if_pos rfl]
    refine ⟨_, actL_line (w := [115, 116, 111, 112]) ⟨by decide, by decide⟩ [n] (fun x hx => by simp at hx; omega) ?_, rfl⟩
    show actOk ((2, n, 0, 0, 0), []) = true
    unfold actOk
    simp [inR]; omega
  rw [if_neg e2]
  by_cases e3 : k = 3
  · subst e3
    rw [if_pos rfl]
    refine ⟨_, actL_line (w := [99, 114, 97, 115, 104]) ⟨by decide, by decide⟩ ks (fun x hx => by have := inR_b (hks x hx); omega) ?_, rfl⟩
    show actOk ((3, 0, 0, 0, 0), ks) = true
    unfold actOk
    simp only [Bool.and_eq_true, decide_eq_true_eq]
    exact ⟨⟨by decide, hl⟩, by rw [List.all_eq_true]; exact hks⟩
  rw [if_neg e3]
  by_cases e4 : k = 4
  · subst e4
    rw [if_pos rfl]
    refine ⟨_, actL_line (w := [102, 108, 105, 112]) ⟨by decide, by decide⟩ [a, n, b, t] (fun x hx => by simp at hx; omega) ?_, rfl⟩
    show actOk ((4, n, a, b, t), []) = true
    unfold actOk
    simp [hn, ha, hb, ht]
  rw [if_neg e4]
  obtain rfl : k = 5 := by omega
  refine ⟨_, actL_line (w := [114, 117, 110]) ⟨by decide, by decide⟩ [n, a] (fun x hx => by simp at hx; omega) ?_, rfl⟩
  show actOk ((5, n, a, 0, 0), []) = true
  unfold actOk
  simp [inR]; omega
end Go.Proofs.YtpmgmiiidfconaaGreatDoor
namespace Go.Proofs.YtpmgmiiidfconaaGreatDoor
open Go.RowKit Go.Ox Go.Ox.Gr Go.Ox.Sc
set_option linter.unusedVariables false
set_option linter.unusedSimpArgs false
attribute [local irreducible] RE OE
set_option maxRecDepth 100000 in
set_option maxHeartbeats 8000000 in
theorem rAct_any (k n a b t : Int) (u : Value) (ks : List Int) (w : World) (hu : RE w u ks) :
    Calls Tryz.prog 8 #[actAg k n a b t u] w fun e w' => e = .returned (strV (actS ((k, n, a, b, t), ks))) ∧ Ext w w' := by
  have HX := Lib.hid ((Ext.refl w).alloc (actCs k n a b t u))
  have HB := Lib.hid (Bx6.new w 24 (.int .i64 k) (.int .i64 n) (.int .i64 a) (.int .i64 b) (.int .i64 t) u)
  have HU := Lib.hid (RE.ext hu HX.out)
  have HC := Lib.hid (fun w h => actMay_any k n a b t u ks w h)
  have HN := Lib.hid (fun h => @actOk_nums k n a b t ks h)
  have HSM := Lib.hid (show actOk ((k, n, a, b, t), ks) = true → n ≤ 65536 ∧ a ≤ 65536 ∧ b ≤ 480 ∧ t ≤ 4294967295 ∧ ∀ x ∈ ks, x ≤ 64 from fun h => by
    unfold actOk inR at h
    simp only [Bool.and_eq_true, decide_eq_true_eq, List.all_eq_true] at h
    obtain ⟨⟨⟨⟨⟨⟨⟨h1, h2⟩, h3⟩, h4⟩, h5⟩, h6⟩, h7⟩, h8⟩ := h
    exact ⟨h3.2, h4.2, h5.2, h6.2, fun x hx => (h8 x hx).2⟩)
  have HR := Lib.hid (show actS ((k, n, a, b, t), ks) = if actOk ((k, n, a, b, t), ks) = true then
    if k = 1 then [112, 105, 99, 107] ++ ([n, a].flatMap fun x => 32 :: Lib.decDigits x.toNat)
    else if k = 2 then [115, 116, 111, 112] ++ ([n].flatMap fun x => 32 :: Lib.decDigits x.toNat)
    else if k = 3 then [99, 114, 97, 115, 104] ++ (ks.flatMap fun x => 32 :: Lib.decDigits x.toNat)
    else if k = 4 then [102, 108, 105, 112] ++ ([a, n, b, t].flatMap fun x => 32 :: Lib.decDigits x.toNat)
    else [114, 117, 110] ++ ([n, a].flatMap fun x => 32 :: Lib.decDigits x.toNat)
  else [] from rfl)
  generalize actS ((k, n, a, b, t), ks) = res at *
  generalize actOk ((k, n, a, b, t), ks) = ok at *
  obtain ⟨A, c, rfl⟩ := hu.form
  clear hu
  go_enter Tryz.func8, Tryz.ntmps8
  go_upto_region 1 with fail
  generalize w.heap.size = p at *
  generalize w.alloc (actCs k n a b t (.slice A ks.length c)) = w0 at *
  obtain ⟨c0, c1, c2, c3, c4, c5⟩ := HB.out.at_
  go_wp2_with fail
  refine (HC.out _ HU.out).mono ?_
  rintro e w1 ⟨rfl, he1⟩
  have HX1 := Lib.hid (HX.out.trans he1)
  have HB1 := Lib.hid (HB.out.ext he1)
  have HU1 := Lib.hid (RE.ext HU.out he1)
  clear he1 c0 c1 c2 c3 c4 c5
  obtain ⟨c0, c1, c2, c3, c4, c5⟩ := HB1.out.at_
  cases ok with
  | false =>
    obtain rfl : res = [] := HR.out
    go_wp2
    go_ret
    exact ⟨rfl, HX1.out⟩
  | true =>
    obtain ⟨hk, hn, ha, hb, htt, hks, hok⟩ := HN.out rfl
    obtain ⟨hn2, ha2, hb2, ht2, hk2⟩ := HSM.out rfl
    have HKS := Lib.hid (And.intro hks (fun (i : Nat) (h : i < ks.length) => And.intro (hok ks[i] (List.getElem_mem h)).1 (hk2 ks[i] (List.getElem_mem h))))
    rw [if_pos rfl] at HR
    obtain ⟨n, rfl⟩ : ∃ m : Nat, n = (m : Int) := ⟨n.toNat, by omega⟩
    obtain ⟨a, rfl⟩ : ∃ m : Nat, a = (m : Int) := ⟨a.toNat, by omega⟩
    obtain ⟨b, rfl⟩ : ∃ m : Nat, b = (m : Int) := ⟨b.toNat, by omega⟩
    obtain ⟨t, rfl⟩ : ∃ m : Nat, t = (m : Int) := ⟨t.toNat, by omega⟩
    have HDN := Lib.hid (fun w => digitsR_any n (by omega) w)
    have HDA := Lib.hid (fun w => digitsR_any a (by omega) w)
    have HDB := Lib.hid (fun w => digitsR_any b (by omega) w)
    have HDT := Lib.hid (fun w => digitsR_any t (by omega) w)
    simp only [List.flatMap_cons, List.flatMap_nil, Int.toNat_natCast, List.append_nil] at HR
    have HLN := Lib.hid (dec_len (m := n) (by omega))
    have HLA := Lib.hid (dec_len (m := a) (by omega))
    have HLB := Lib.hid (dec_len (m := b) (by omega))
    have HLT := Lib.hid (dec_len (m := t) (by omega))
    generalize Lib.decDigits n = dn at *
    generalize Lib.decDigits a = da at *
    generalize Lib.decDigits b = db at *
    generalize Lib.decDigits t = dt at *
    clear hn ha hb htt hks hok hn2 ha2 hb2 ht2 hk2
    go_wp2_with fail
    refine (HDN.out _).mono ?_
    rintro e w2 ⟨rfl, rfl⟩
    by_cases k1 : k = 1
    · rw [if_pos k1] at HR
      subst k1
      have s1 := fun w => add_str (P := Tryz.prog) (t := 9) [112, 105, 99, 107, 32] dn w (by have := HLN.out; simp; omega)
      have s2 := fun w => add_str (P := Tryz.prog) (t := 9) (112 :: 105 :: 99 :: 107 :: 32 :: dn) [32] w (by have := HLN.out; simp; omega)
      have s3 := fun w => add_str (P := Tryz.prog) (t := 9) (112 :: 105 :: 99 :: 107 :: 32 :: (dn ++ [32])) da w (by have := HLN.out; have := HLA.out; simp; omega)
      clear hk
      go_wp2_with fail
      refine (HDA.out _).mono ?_
      rintro e w2 ⟨rfl, rfl⟩
      go_wp2
      go_ret
      exact ⟨by rw [HR.out]; simp, HX1.out⟩
    rw [if_neg k1] at HR
    by_cases k2 : k = 2
    · rw [if_pos k2] at HR
      subst k2
      have s1 := fun w => add_str (P := Tryz.prog) (t := 9) [115, 116, 111, 112, 32] dn w (by have := HLN.out; simp; omega)
      clear hk k1
      go_wp2
      go_ret
      exact ⟨by rw [HR.out]; simp, HX1.out⟩
    rw [if_neg k2] at HR
    by_cases k4 : k = 4
    · rw [if_neg (show ¬ k = 3 by omega), if_pos k4] at HR
      subst k4
      have t1 := fun w => add_str (P := Tryz.prog) (t := 9) [102, 108, 105, 112, 32] da w (by have := HLA.out; simp; omega)
      have t2 := fun w => add_str (P := Tryz.prog) (t := 9) (102 :: 108 :: 105 :: 112 :: 32 :: da) [32] w (by have := HLA.out; simp; omega)
      have t3 := fun w => add_str (P := Tryz.prog) (t := 9) (102 :: 108 :: 105 :: 112 :: 32 :: (da ++ [32])) dn w (by have := HLA.out; have := HLN.out; simp; omega)
      have t4 := fun w => add_str (P := Tryz.prog) (t := 9) (102 :: 108 :: 105 :: 112 :: 32 :: (da ++ 32 :: dn)) [32] w (by have := HLA.out; have := HLN.out; simp; omega)
      have t5 := fun w => add_str (P := Tryz.prog) (t := 9) (102 :: 108 :: 105 :: 112 :: 32 :: (da ++ 32 :: (dn ++ [32]))) db w (by have := HLA.out; have := HLN.out; have := HLB.out; simp; omega)
      have t6 := fun w => add_str (P := Tryz.prog) (t := 9) (102 :: 108 :: 105 :: 112 :: 32 :: (da ++ 32 :: (dn ++ 32 :: db))) [32] w (by have := HLA.out; have := HLN.out; have := HLB.out; simp; omega)
      have t7 := fun w => add_str (P := Tryz.prog) (t := 9) (102 :: 108 :: 105 :: 112 :: 32 :: (da ++ 32 :: (dn ++ 32 :: (db ++ [32])))) dt w (by have := HLA.out; have := HLN.out; have := HLB.out; have := HLT.out; simp; omega)
      clear hk k1 k2
      go_upto_region 10 with fail
      refine yx ?_
      refine ya ?_
      refine yl6 c0 c1 c2 c3 c4 c5 ?_
      refine yd1 (strV da) (fun w' _ => HDA.out w') ?_
      refine ya ?_
      refine yl6 c0 c1 c2 c3 c4 c5 ?_
      refine yd1 (strV db) (fun w' _ => HDB.out w') ?_
      refine ya ?_
      refine yl6 c0 c1 c2 c3 c4 c5 ?_
      refine yd1 (strV dt) (fun w' _ => HDT.out w') ?_
      refine ya ?_
      refine wpY_done ?_
      intro wz hx hS
      iterate 18 (rintro _ rfl)
      dsimp only [FinV]
      go_simp
      go_wp2
      go_ret
      exact ⟨by rw [HR.out]; simp, HX1.out.trans hx⟩
    rw [if_neg k4] at HR
    by_cases k3 : k = 3
    · rw [if_pos k3] at HR
      subst k3
      clear hk k1 k2 k4
      go_wp2
      clear c0 c1 c2 c3 c4 c5
      go_loopw [4, 5] (fun ov iv wr => ∃ i : Nat, i ≤ ks.length ∧ iv = .int .i64 (i : Int) ∧ ov = strV ([99, 114, 97, 115, 104] ++ (ks.take i).flatMap fun x => 32 :: Lib.decDigits x.toNat) ∧ wr = w1) (fun _ iv _ => ks.length - (intOf iv).toNat)
      case atStart => exact ⟨0, Nat.zero_le _, rfl, by simp, rfl⟩
      case round =>
        obtain ⟨i, hi, rfl, rfl, hwr⟩ := hrel
        subst hwr
        rename World => wr
        obtain ⟨c0, c1, c2, c3, c4, c5⟩ := HB1.out.at_
        have hi2 : i ≤ 256 := by have := HKS.out.1; omega
        by_cases hlt : i < ks.length
        · have q1 : (i : Int) < (ks.length : Int) := by omega
          have q0 : 0 ≤ (i : Int) := by omega
          have q1n : i < ks.length := hlt
          have HI := Lib.hid hlt
          obtain ⟨bI, oI, rfl, z0⟩ := ri1 HU1.out hlt
          have HK := Lib.hid (HKS.out.2 i hlt)
          have HS := Lib.hid (show (([99, 114, 97, 115, 104] : List UInt8) ++ (ks.take (i + 1)).flatMap fun (x : Int) => 32 :: Lib.decDigits x.toNat) = ([99, 114, 97, 115, 104] ++ (ks.take i).flatMap fun x => 32 :: Lib.decDigits x.toNat) ++ (32 :: Lib.decDigits ks[i].toNat) from by
            rw [List.take_succ_eq_append_getElem hlt, List.flatMap_append, List.append_assoc]
            simp
            try rfl)
          have HLL := Lib.hid (show (([99, 114, 97, 115, 104] : List UInt8) ++ (ks.take i).flatMap fun (x : Int) => 32 :: Lib.decDigits x.toNat).length ≤ 100000 from by
            have h1 := flat_le (fun (x : Int) => 32 :: Lib.decDigits x.toNat) 21 (ks.take i) (fun x hx => by
              obtain ⟨j, hj, rfl⟩ := List.getElem_of_mem (List.mem_of_mem_take hx)
              have h := HKS.out.2 j hj
              have := dec_len (m := ks[j].toNat) (by omega)
              simp; omega)
            have h2 : (ks.take i).length * 21 ≤ 256 * 21 := Nat.mul_le_mul_right _ (by rw [List.length_take]; omega)
            rw [List.length_append]; simp only [List.length_cons, List.length_nil]; omega)
          generalize ks[i] = x at *
          obtain ⟨y, hy⟩ : ∃ y : Nat, x = (y : Int) := ⟨x.toNat, by have := HK.out.1; omega⟩
          subst hy
          rw [show ((y : Int)).toNat = y from rfl] at HS
          generalize ([99, 114, 97, 115, 104] ++ (ks.take i).flatMap fun x => 32 :: Lib.decDigits x.toNat) = lk at *
          have HDY := Lib.hid (fun w => digitsR_any y (by have := HK.out.2; omega) w)
          have HDL := Lib.hid (dec_len (m := y) (by have := HK.out.2; omega))
          generalize Lib.decDigits y = dy at *
          have s1 := fun w => add_str (P := Tryz.prog) (t := 9) lk [32] w (by have := HLL.out; simp; omega)
          have s2 := fun w => add_str (P := Tryz.prog) (t := 9) (lk ++ [32]) dy w (by have := HLL.out; have := HDL.out; simp; omega)
          clear hlt hi
          go_wp2_with fail
          refine (HDY.out _).mono ?_
          rintro e w2 ⟨rfl, rfl⟩
          go_wp2
          exact ⟨⟨i + 1, HI.out, by go_num, by first | (rw [HS.out]; done) | (rw [HS.out]; simp; done), by first | trivial | rfl⟩, by have := HI.out; simp [intOf]; omega⟩
        · obtain rfl : i = ks.length := by omega
          have q1 : ¬ (ks.length : Int) < (ks.length : Int) := by omega
          rw [List.take_length]
          clear hlt hi
          go_wp2
          go_ret
          exact ⟨by first | (rw [HR.out]; done) | (rw [HR.out]; simp; done), HX1.out⟩
    rw [if_neg k3] at HR
    have k5 : k = 5 := by omega
    subst k5
    have s1 := fun w => add_str (P := Tryz.prog) (t := 9) [114, 117, 110, 32] dn w (by have := HLN.out; simp; omega)
    have s2 := fun w => add_str (P := Tryz.prog) (t := 9) (114 :: 117 :: 110 :: 32 :: dn) [32] w (by have := HLN.out; simp; omega)
    have s3 := fun w => add_str (P := Tryz.prog) (t := 9) (114 :: 117 :: 110 :: 32 :: (dn ++ [32])) da w (by have := HLN.out; have := HLA.out; simp; omega)
    clear hk
    go_wp2_with fail
    refine (HDA.out _).mono ?_
    rintro e w2 ⟨rfl, rfl⟩
    go_wp2
    go_ret
    exact ⟨by rw [HR.out]; simp, HX1.out⟩
end Go.Proofs.YtpmgmiiidfconaaGreatDoor
