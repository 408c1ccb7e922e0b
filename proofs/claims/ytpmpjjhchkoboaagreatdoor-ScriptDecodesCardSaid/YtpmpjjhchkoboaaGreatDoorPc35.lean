/-
  ScrSame, packed: what the claim needs of them.
-/
import Derived.Test.YtpmpjjhchkoboaaGreatDoorPc24
import Derived.Test.YtpmpjjhchkoboaaGreatDoorPc34
import Derived.Test.YtpmpjjhchkoboaaGreatDoorPc28
import Derived.ChangeKeysEq
open Go.Lib (hid)
set_option maxHeartbeats 400000
set_option linter.unusedSimpArgs false
set_option linter.unusedVariables false
set_option maxRecDepth 100000
namespace Go.Proofs.YtpmpjjhchkoboaaGreatDoor
open Go.RowKit Go.Ox Go.Ox.Gr Go.Ox.Sc
attribute [local irreducible] RE OE EpR InsR ActsR RP NodesR
abbrev ag5 (k n a b t : Int) : Value := .agg #[.int .i64 k, .int .i64 n, .int .i64 a, .int .i64 b, .int .i64 t]
@[irreducible] def fiveB (x y : Int × Int × Int × Int × Int) : Bool := decide (x = y)
theorem fiveB_t {x y : Int × Int × Int × Int × Int} (h : x = y) : fiveB x y = true := by unfold fiveB; simpa using h
theorem fiveB_f {x y : Int × Int × Int × Int × Int} (h : x ≠ y) : fiveB x y = false := by unfold fiveB; simpa using h
theorem eqIn5 (k n a b t k' n' a' b' t' : Int) (w : World) : (Op.equalIn 10000 124 (ag5 k n a b t) (ag5 k' n' a' b' t')).run Tryz.prog w = .ok (fiveB (k, n, a, b, t) (k', n', a', b', t')) w := by
 have u3 := Tryz.underlying3
 have a3 := Tryz.isAgg3
 have z3 := Tryz.sizeOf3
 obtain ⟨i, hi⟩ : ∃ i, Tryz.prog.info? 3 = some i := Option.isSome_iff_exists.1 (by kernel_rfl)
 have hc : Tryz.prog.cellsOf 3 = 1 := by kernel_rfl
 have hS : Tryz.prog.underlying 124 = some (.array 5 3) := by kernel_rfl
 rw [show (10000 : Nat) = 9999 + 1 from rfl, run_equalIn_array w 9999 _ _ hS hi, hc]
 simp only [show List.range 5 = [0, 1, 2, 3, 4] from rfl, Op.eqItems]
 have e : fiveB (k, n, a, b, t) (k', n', a', b', t') = ((k == k') && ((n == n') && ((a == a') && ((b == b') && (t == t'))))) := by
  unfold fiveB; rw [Bool.eq_iff_iff]; simp
 rw [e]
 go_simp
 by_cases h1 : k = k' <;> by_cases h2 : n = n' <;> by_cases h3 : a = a' <;> by_cases h4 : b = b' <;> by_cases h5 : t = t' <;> simp [h1, h2, h3, h4, h5]
theorem guard5 : Tryz.prog.eqGuardType Tryz.prog.depth 124 = false := by kernel_rfl
theorem five_any (k n a b t : Int) (u : Value) (w : World) : Calls Tryz.prog 78 #[actAg k n a b t u] w fun e w' => e = .returned (ag5 k n a b t) ∧ Ext w w' := by
 have HX := hid ((Ext.refl w).alloc (actCs k n a b t u))
 have hsz : (w.alloc (actCs k n a b t u)).heap.size = w.heap.size + 1 := by simp
 have HSZ := hid hsz
 clear hsz
 obtain ⟨c0, c1, c2, c3, c4, c5⟩ := (Bx6.new w 47 (.int .i64 k) (.int .i64 n) (.int .i64 a) (.int .i64 b) (.int .i64 t) u).at_
 go_enter Tryz.func78, Tryz.ntmps78
 go_wp2
 have hb := Blk.new (w.alloc (actCs k n a b t u)) 124 #[.int .i64 k, .int .i64 n, .int .i64 a, .int .i64 b, .int .i64 t]
 rw [HSZ.out] at hb
 have y0 := hb.cell 0
 have y1 := hb.cell 1
 have y2 := hb.cell 2
 have y3 := hb.cell 3
 have y4 := hb.cell 4
 exact bodyPost_ret (v := ag5 k n a b t) (by simp [results, Tryz.results78, go_sem, y0, y1, y2, y3, y4]) rfl ⟨rfl, HX.out.alloc _⟩
theorem EqP.dec {α : Type} [DecidableEq α] {x y : α} {w w' : World} {e : Ending} (h : EqP x y w e w') : e = .returned (.bool (decide (x = y))) ∧ Ext w w' := by
 obtain ⟨b, rfl, hb, he⟩ := h
 refine ⟨?_, he⟩
 cases b with
 | true => rw [decide_eq_true (hb.1 rfl)]
 | false => rw [decide_eq_false fun q => by have := hb.2 q; cases this]
theorem EqP.of {α : Type} [DecidableEq α] {x y : α} {w w' : World} {e : Ending} (h : e = .returned (.bool (decide (x = y))) ∧ Ext w w') : EqP x y w e w' := ⟨_, h.1, by simp, h.2⟩
set_option maxHeartbeats 2000000 in
theorem sameActs_any (k n a b t k' n' a' b' t' : Int) (u u' : Value) (ks ks' : List Int) (w : World) (hu : RE w u ks) (hu' : RE w u' ks') (hl : ks.length ≤ 1000000) :
 Calls Tryz.prog 31 #[actAg k n a b t u, actAg k' n' a' b' t' u'] w (EqP (((k, n, a, b, t), ks) : Sc.Act) ((k', n', a', b', t'), ks') w) := by
 have hal := (Ext.refl w).alloc (actCs k n a b t u)
 have HX := hid (hal.alloc (actCs k' n' a' b' t' u'))
 have HB := hid ((Bx6.new w 47 (.int .i64 k) (.int .i64 n) (.int .i64 a) (.int .i64 b) (.int .i64 t) u).ext ((Ext.refl _).alloc (actCs k' n' a' b' t' u')))
 have HC := hid (Bx6.new (w.alloc (actCs k n a b t u)) 47 (.int .i64 k') (.int .i64 n') (.int .i64 a') (.int .i64 b') (.int .i64 t') u')
 have hsz : (w.alloc (actCs k n a b t u)).heap.size = w.heap.size + 1 := by simp
 rw [hsz] at HC
 have HU := hid (RE.ext hu HX.out)
 have HU' := hid (RE.ext hu' HX.out)
 have HF := hid (fun W => five_any k n a b t u W)
 have HG := hid (fun W => five_any k' n' a' b' t' u' W)
 have HQ := hid (fun W (h1 : RE W u ks) (h2 : RE W u' ks') => (equalI_any u u' ks ks' W h1 h2 hl).mono fun _ _ h => EqP.dec h)
 obtain ⟨A, c, rfl⟩ := hu.form
 obtain ⟨A', c', rfl⟩ := hu'.form
 have HE := hid (fun W => eqIn5 k n a b t k' n' a' b' t' W)
 have HGD := guard5
 have HT := hid (fun h => @fiveB_t (k, n, a, b, t) (k', n', a', b', t') h)
 have HFF := hid (fun h => @fiveB_f (k, n, a, b, t) (k', n', a', b', t') h)
 have HNO := hid (fun w' e h1 h2 h3 => @EqP.no Sc.Act ((k, n, a, b, t), ks) ((k', n', a', b', t'), ks') w w' e h1 h2 h3)
 have HYES := hid (fun w' e h1 h2 h3 => @EqP.yes Sc.Act ((k, n, a, b, t), ks) ((k', n', a', b', t'), ks') w w' e h1 h2 h3)
 generalize fiveB (k, n, a, b, t) (k', n', a', b', t') = fb at *
 clear hu hu' hl hsz hal
 go_enter Tryz.func31, Tryz.ntmps31
 go_upto_region 1 with fail
 generalize w.heap.size = p at *
 generalize (w.alloc (actCs k n a b t (.slice A ks.length c))).alloc (actCs k' n' a' b' t' (.slice A' ks'.length c')) = w0 at *
 obtain ⟨c0, c1, c2, c3, c4, c5⟩ := HB.out.at_
 obtain ⟨c6, c7, c8, c9, c10, c11⟩ := HC.out.at_
 go_upto_region 2 with fail
 refine wp_regionY [] [] Ext Ext (fun _ => True) (by kernel_rfl) (by rfl) (by rfl) (by kernel_rfl) (by kernel_rfl) (by kernel_rfl) (fun _ _ _ x y => x.trans y) Ext.refl (fun _ _ x => x) (Ext.refl _).drew (fun _ _ x _ => x) trivial ?_
 repeat (first | (refine wpY_move0 rfl rfl (runsX rfl) Ext.refl rfl rfl rfl ?_; apply Exists.intro; refine ⟨?_, ?_⟩; · (go_simp; rfl)) | (refine wpY_move rfl rfl (runsX rfl) Ext.refl rfl rfl rfl (fun _ _ _ h _ => h) ?_) | (refine wpY_val rfl rfl (runsX rfl) Ext.refl rfl ?_; apply Exists.intro; refine ⟨?_, ?_⟩; · (intro a w' hR; (try (intro h1; try have e1 : _ = _ := h1)); (try (intro h2; try have e2 : _ = _ := h2)); (try (intro h3; try have e3 : _ = _ := h3)); go_simp; rfl)) | (refine wpY_skip rfl rfl (by first | exact .inl rfl | exact .inr rfl) ?_))
 refine wpY_val rfl rfl (runsX rfl) Ext.refl rfl ?_; apply Exists.intro; refine ⟨?_, ?_⟩
 · intro a w' hR h1
   have e1 : _ = _ := h1
   have hl0 := hR.cell c0
   have hl1 := hR.cell c1
   have hl2 := hR.cell c2
   have hl3 := hR.cell c3
   have hl4 := hR.cell c4
   have hl5 := hR.cell c5
   have hl6 := hR.cell c6
   have hl7 := hR.cell c7
   have hl8 := hR.cell c8
   have hl9 := hR.cell c9
   have hl10 := hR.cell c10
   have hl11 := hR.cell c11
   go_simp
   rfl
 refine wpY_call (fun v _ => v = ag5 k n a b t) rfl rfl (runsX rfl) rfl (by exact mono_eq) ?_ ?_
 · intro a w' hR h1 h2 K hK
   have e1 : _ = _ := h1
   have e2 : _ = _ := h2
   go_simp
   refine (HF.out w').mono ?_
   rintro e w2 ⟨rfl, he⟩
   exact hK _ _ he rfl
 repeat (first | (refine wpY_move0 rfl rfl (runsX rfl) Ext.refl rfl rfl rfl ?_; apply Exists.intro; refine ⟨?_, ?_⟩; · (go_simp; rfl)) | (refine wpY_move rfl rfl (runsX rfl) Ext.refl rfl rfl rfl (fun _ _ _ h _ => h) ?_) | (refine wpY_val rfl rfl (runsX rfl) Ext.refl rfl ?_; apply Exists.intro; refine ⟨?_, ?_⟩; · (intro a w' hR; (try (intro h1; try have e1 : _ = _ := h1)); (try (intro h2; try have e2 : _ = _ := h2)); (try (intro h3; try have e3 : _ = _ := h3)); go_simp; rfl)) | (refine wpY_skip rfl rfl (by first | exact .inl rfl | exact .inr rfl) ?_))
 refine wpY_val rfl rfl (runsX rfl) Ext.refl rfl ?_; apply Exists.intro; refine ⟨?_, ?_⟩
 · intro a w' hR h1
   have e1 : _ = _ := h1
   have hl0 := hR.cell c0
   have hl1 := hR.cell c1
   have hl2 := hR.cell c2
   have hl3 := hR.cell c3
   have hl4 := hR.cell c4
   have hl5 := hR.cell c5
   have hl6 := hR.cell c6
   have hl7 := hR.cell c7
   have hl8 := hR.cell c8
   have hl9 := hR.cell c9
   have hl10 := hR.cell c10
   have hl11 := hR.cell c11
   go_simp
   rfl
 refine wpY_call (fun v _ => v = ag5 k' n' a' b' t') rfl rfl (runsX rfl) rfl (by exact mono_eq) ?_ ?_
 · intro a w' hR h1 h2 K hK
   have e1 : _ = _ := h1
   have e2 : _ = _ := h2
   go_simp
   refine (HG.out w').mono ?_
   rintro e w2 ⟨rfl, he⟩
   exact hK _ _ he rfl
 refine wpY_val rfl rfl (runsX rfl) Ext.refl rfl ?_; apply Exists.intro; refine ⟨?_, ?_⟩
 · intro a w' hR h1 h2
   have e1 : _ = _ := h1
   have e2 : _ = _ := h2
   have hq9 := HE.out w'
   go_simp
   rfl
 by_cases hab : (k, n, a, b, t) = (k', n', a', b', t')
 case neg =>
  obtain rfl : fb = false := HFF.out hab
  have HN := hid (show (((k, n, a, b, t), ks) : Sc.Act) ≠ ((k', n', a', b', t'), ks') from fun q => hab (congrArg Prod.fst q))
  clear hab
  repeat (first | (refine wpY_move0 rfl rfl (runsX rfl) Ext.refl rfl rfl rfl ?_; apply Exists.intro; refine ⟨?_, ?_⟩; · (go_simp; rfl)) | (refine wpY_move rfl rfl (runsX rfl) Ext.refl rfl rfl rfl (fun _ _ _ h _ => h) ?_) | (refine wpY_val rfl rfl (runsX rfl) Ext.refl rfl ?_; apply Exists.intro; refine ⟨?_, ?_⟩; · (intro a w' hR; (try (intro h1; try have e1 : _ = _ := h1)); (try (intro h2; try have e2 : _ = _ := h2)); (try (intro h3; try have e3 : _ = _ := h3)); go_simp; rfl)) | (refine wpY_skip rfl rfl (by first | exact .inl rfl | exact .inr rfl) ?_))
  refine wpY_done ?_
  intro wz hx hS
  iterate 14 (rintro _ rfl)
  dsimp only [FinV]
  go_simp
  go_wp2
  go_ret
  exact HNO.out _ _ HN.out rfl (HX.out.trans hx)
 obtain rfl : fb = true := HT.out hab
 have HAB := hid hab
 clear hab
 repeat (first | (refine wpY_move0 rfl rfl (runsX rfl) Ext.refl rfl rfl rfl ?_; apply Exists.intro; refine ⟨?_, ?_⟩; · (go_simp; rfl)) | (refine wpY_move rfl rfl (runsX rfl) Ext.refl rfl rfl rfl (fun _ _ _ h _ => h) ?_) | (refine wpY_val rfl rfl (runsX rfl) Ext.refl rfl ?_; apply Exists.intro; refine ⟨?_, ?_⟩; · (intro a w' hR; (try (intro h1; try have e1 : _ = _ := h1)); (try (intro h2; try have e2 : _ = _ := h2)); (try (intro h3; try have e3 : _ = _ := h3)); go_simp; rfl)) | (refine wpY_skip rfl rfl (by first | exact .inl rfl | exact .inr rfl) ?_))
 refine wpY_val rfl rfl (runsX rfl) Ext.refl rfl ?_; apply Exists.intro; refine ⟨?_, ?_⟩
 · intro a w' hR h1
   have e1 : _ = _ := h1
   have hl0 := hR.cell c0
   have hl1 := hR.cell c1
   have hl2 := hR.cell c2
   have hl3 := hR.cell c3
   have hl4 := hR.cell c4
   have hl5 := hR.cell c5
   have hl6 := hR.cell c6
   have hl7 := hR.cell c7
   have hl8 := hR.cell c8
   have hl9 := hR.cell c9
   have hl10 := hR.cell c10
   have hl11 := hR.cell c11
   go_simp
   rfl
 repeat (first | (refine wpY_move0 rfl rfl (runsX rfl) Ext.refl rfl rfl rfl ?_; apply Exists.intro; refine ⟨?_, ?_⟩; · (go_simp; rfl)) | (refine wpY_move rfl rfl (runsX rfl) Ext.refl rfl rfl rfl (fun _ _ _ h _ => h) ?_) | (refine wpY_val rfl rfl (runsX rfl) Ext.refl rfl ?_; apply Exists.intro; refine ⟨?_, ?_⟩; · (intro a w' hR; (try (intro h1; try have e1 : _ = _ := h1)); (try (intro h2; try have e2 : _ = _ := h2)); (try (intro h3; try have e3 : _ = _ := h3)); go_simp; rfl)) | (refine wpY_skip rfl rfl (by first | exact .inl rfl | exact .inr rfl) ?_))
 refine wpY_val rfl rfl (runsX rfl) Ext.refl rfl ?_; apply Exists.intro; refine ⟨?_, ?_⟩
 · intro a w' hR h1
   have e1 : _ = _ := h1
   have hl0 := hR.cell c0
   have hl1 := hR.cell c1
   have hl2 := hR.cell c2
   have hl3 := hR.cell c3
   have hl4 := hR.cell c4
   have hl5 := hR.cell c5
   have hl6 := hR.cell c6
   have hl7 := hR.cell c7
   have hl8 := hR.cell c8
   have hl9 := hR.cell c9
   have hl10 := hR.cell c10
   have hl11 := hR.cell c11
   go_simp
   rfl
 refine wpY_call (fun v _ => v = .bool (decide (ks = ks'))) rfl rfl (runsX rfl) rfl (by first | exact mono_eq | exact (fun _ _ _ h k => Rd.ext h k) | exact (fun _ _ _ h k => RB.ext h k) | exact (fun _ _ _ h k => OB.ext h k) | exact (fun _ _ _ h k => RB.extS h k) | exact (fun _ _ _ h k => Rd.ext h (GrownW.ext k)) | exact (fun _ _ _ h k => RP.ext h k) | exact (fun _ _ _ h k => OP.ext h k) | exact (fun _ _ _ h k => Rd.extV h k) | exact (fun _ _ _ h k => RB.extV h k) | exact (fun _ _ _ h k => E0.ext h k) | exact (fun _ _ _ h k => O0.ext h k) | exact (fun _ _ _ h k => RE.ext h k) | exact (fun _ _ _ h k => RE.extD h k) | exact (fun _ _ _ h _ => h) | exact (fun _ _ _ ⟨n, h1, h2⟩ k => ⟨n, h1, k.st _ _ h2⟩)) ?_ ?_
 · intro a w' hR h1 h2 K hK
   have e1 : _ = _ := h1
   have e2 : _ = _ := h2
   go_simp
   refine (HQ.out w' (RE.ext HU.out hR) (RE.ext HU'.out hR)).mono ?_
   rintro e w2 ⟨rfl, he⟩
   exact hK _ _ he rfl
 by_cases hks : ks = ks'
 · have hd : decide (ks = ks') = true := decide_eq_true hks
   have HY := hid (show (((k, n, a, b, t), ks) : Sc.Act) = ((k', n', a', b', t'), ks') from by rw [HAB.out, hks])
   rw [hd]
   clear hks hd
   repeat (first | (refine wpY_move0 rfl rfl (runsX rfl) Ext.refl rfl rfl rfl ?_; apply Exists.intro; refine ⟨?_, ?_⟩; · (go_simp; rfl)) | (refine wpY_move rfl rfl (runsX rfl) Ext.refl rfl rfl rfl (fun _ _ _ h _ => h) ?_) | (refine wpY_val rfl rfl (runsX rfl) Ext.refl rfl ?_; apply Exists.intro; refine ⟨?_, ?_⟩; · (intro a w' hR; (try (intro h1; try have e1 : _ = _ := h1)); (try (intro h2; try have e2 : _ = _ := h2)); (try (intro h3; try have e3 : _ = _ := h3)); go_simp; rfl)) | (refine wpY_skip rfl rfl (by first | exact .inl rfl | exact .inr rfl) ?_))
   refine wpY_done ?_
   intro wz hx hS
   iterate 14 (rintro _ rfl)
   dsimp only [FinV]
   go_simp
   go_wp2
   go_ret
   exact HYES.out _ _ HY.out rfl (HX.out.trans hx)
 · have hd : decide (ks = ks') = false := decide_eq_false hks
   have HN := hid (show (((k, n, a, b, t), ks) : Sc.Act) ≠ ((k', n', a', b', t'), ks') from fun q => hks (congrArg Prod.snd q))
   rw [hd]
   clear hks hd
   repeat (first | (refine wpY_move0 rfl rfl (runsX rfl) Ext.refl rfl rfl rfl ?_; apply Exists.intro; refine ⟨?_, ?_⟩; · (go_simp; rfl)) | (refine wpY_move rfl rfl (runsX rfl) Ext.refl rfl rfl rfl (fun _ _ _ h _ => h) ?_) | (refine wpY_val rfl rfl (runsX rfl) Ext.refl rfl ?_; apply Exists.intro; refine ⟨?_, ?_⟩; · (intro a w' hR; (try (intro h1; try have e1 : _ = _ := h1)); (try (intro h2; try have e2 : _ = _ := h2)); (try (intro h3; try have e3 : _ = _ := h3)); go_simp; rfl)) | (refine wpY_skip rfl rfl (by first | exact .inl rfl | exact .inr rfl) ?_))
   refine wpY_done ?_
   intro wz hx hS
   iterate 14 (rintro _ rfl)
   dsimp only [FinV]
   go_simp
   go_wp2
   go_ret
   exact HNO.out _ _ HN.out rfl (HX.out.trans hx)
theorem sameEp_any (v u : Value) (l r : List Bag) (w : World) (hv : EpR w v l) (hu : EpR w u r) (hl : l.length ≤ 1000000) (hb : ∀ b ∈ l, b.length ≤ 1000000) (hc : ∀ b ∈ r, b.length ≤ 1000000) :
 Calls Tryz.prog 25 #[v, u] w (EqP (srtE l) (srtE r) w) := by
 have eg2 : ∀ args w, (callFunc 27 args).run Tryz.prog w = .ok (.enter 27 args) w := enters_of Tryz.func27 (by kernel_rfl) rfl
 have HC := hid (equalB_any 27 #[] eg2 v u l r w hv hu (by omega) (fun a b x y W hx hy he h1 h2 => (same_any a b x y W h1 h2 (hb x hx) (hc y hy)).mono fun _ _ h => EqP.of h))
 obtain ⟨A, c, rfl⟩ := hv.form
 obtain ⟨B, e, rfl⟩ := hu.form
 clear hv hu hl hb hc eg2
 go_enter Tryz.func25, Tryz.ntmps25
 go_wp2_with fail
 refine HC.out.mono ?_
 rintro e w1 ⟨b, rfl, hbb, he1⟩
 have HBB := hid hbb
 clear hbb
 go_wp2
 go_ret
 exact ⟨b, rfl, HBB.out, he1⟩
@[irreducible] def cfgB (x y : Int × Int × Int × Int) : Bool := decide (x = y)
theorem cfgB_t {x y : Int × Int × Int × Int} (h : x = y) : cfgB x y = true := by unfold cfgB; simpa using h
theorem cfgB_f {x y : Int × Int × Int × Int} (h : x ≠ y) : cfgB x y = false := by unfold cfgB; simpa using h
abbrev cfgAg (k n a b : Int) : Value := .agg #[.int .i64 k, .int .i64 n, .int .i64 a, .int .i64 b]
theorem eqInC (k n a b k' n' a' b' : Int) (w : World) : (Op.equalIn 10000 23 (cfgAg k n a b) (cfgAg k' n' a' b')).run Tryz.prog w = .ok (cfgB (k, n, a, b) (k', n', a', b')) w := by
 have u3 := Tryz.underlying3
 have a3 := Tryz.isAgg3
 have z3 := Tryz.sizeOf3
 have hS : Tryz.prog.underlying 23 = some (.struct (Tryz.prog.fieldsOf 23)) := by kernel_rfl
 have hp : Tryz.prog.stoodInHeld 23 = false := by kernel_rfl
 rw [show (10000 : Nat) = 9999 + 1 from rfl, run_equalIn_agg w 9999 23 _ _ hS hp]
 simp only [Program.fieldsOf, Tryz.underlying23]
 have e : cfgB (k, n, a, b) (k', n', a', b') = ((k == k') && ((n == n') && ((a == a') && (b == b')))) := by
  unfold cfgB; rw [Bool.eq_iff_iff]; simp
 rw [e]
 go_simp
 by_cases h1 : k = k' <;> by_cases h2 : n = n' <;> by_cases h3 : a = a' <;> by_cases h4 : b = b' <;> simp [h1, h2, h3, h4]
theorem guardC : Tryz.prog.eqGuardType Tryz.prog.depth 23 = false := by kernel_rfl
theorem nrm_eq {s t : Sc} : nrm s = nrm t ↔ s.cfg = t.cfg ∧ s.g = t.g ∧ s.ins.map srtE = t.ins.map srtE ∧ s.acts = t.acts := by
 unfold nrm
 constructor
 · intro h; injection h with h1 h2 h3 h4; exact ⟨h1, h2, h3, h4⟩
 · rintro ⟨h1, h2, h3, h4⟩; rw [h1, h2, h3, h4]
set_option maxHeartbeats 4000000 in
theorem sSame_any (d d' : Nat) (s t : Sc) (nv iv av nv' iv' av' : Value) (w : World) (h : ScR d w nv iv av s) (h' : ScR d' w nv' iv' av' t) (hs : ScSm s) (ht : ScSm t) (hm : Sm 4 s.g.1) :
 Calls Tryz.prog 9 #[scAg s nv iv av, scAg t nv' iv' av'] w (EqP (nrm s) (nrm t) w) := by
 have HNO := hid (fun w' e (h1 : ¬ (s.cfg = t.cfg ∧ s.g = t.g ∧ s.ins.map srtE = t.ins.map srtE ∧ s.acts = t.acts)) h2 h3 => @EqP.no Sc (nrm s) (nrm t) w w' e (fun q => h1 (nrm_eq.1 q)) h2 h3)
 have HYES := hid (fun w' e (h1 : s.cfg = t.cfg ∧ s.g = t.g ∧ s.ins.map srtE = t.ins.map srtE ∧ s.acts = t.acts) h2 h3 => @EqP.yes Sc (nrm s) (nrm t) w w' e (nrm_eq.2 h1) h2 h3)
 generalize nrm s = rs at *
 generalize nrm t = rt at *
 obtain ⟨⟨k0, k1, k2, k3⟩, ⟨ns, out⟩, ins, acts⟩ := s
 obtain ⟨⟨j0, j1, j2, j3⟩, ⟨ns', out'⟩, ins', acts'⟩ := t
 obtain ⟨hn, hi, ha⟩ := h
 obtain ⟨hn', hi', ha'⟩ := h'
 obtain ⟨hs1, hs2, hs3, hs4⟩ := hs
 obtain ⟨ht1, ht2, ht3, ht4⟩ := ht
 dsimp only at *
 have hal := (Ext.refl w).alloc (scCs (.int .i64 k0) (.int .i64 k1) (.int .i64 k2) (.int .i64 k3) nv out iv av)
 have HX := hid (hal.alloc (scCs (.int .i64 j0) (.int .i64 j1) (.int .i64 j2) (.int .i64 j3) nv' out' iv' av'))
 have HB := hid ((Bx8.new w 30 (.int .i64 k0) (.int .i64 k1) (.int .i64 k2) (.int .i64 k3) nv (.int .i64 out) iv av).ext ((Ext.refl _).alloc (scCs (.int .i64 j0) (.int .i64 j1) (.int .i64 j2) (.int .i64 j3) nv' out' iv' av')))
 have HC := hid (Bx8.new (w.alloc (scCs (.int .i64 k0) (.int .i64 k1) (.int .i64 k2) (.int .i64 k3) nv out iv av)) 30 (.int .i64 j0) (.int .i64 j1) (.int .i64 j2) (.int .i64 j3) nv' (.int .i64 out') iv' av')
 have hsz : (w.alloc (scCs (.int .i64 k0) (.int .i64 k1) (.int .i64 k2) (.int .i64 k3) nv out iv av)).heap.size = w.heap.size + 1 := by simp
 rw [hsz] at HC
 have HN := hid (And.intro (hn.ext HX.out) (hn'.ext HX.out))
 have HI := hid (And.intro (hi.ext HX.out) (hi'.ext HX.out))
 have HA := hid (And.intro (ha.ext HX.out) (ha'.ext HX.out))
 have eg1 : ∀ args w, (callFunc 25 args).run Tryz.prog w = .ok (.enter 25 args) w := enters_of Tryz.func25 (by kernel_rfl) rfl
 have eg2 : ∀ args w, (callFunc 31 args).run Tryz.prog w = .ok (.enter 31 args) w := enters_of Tryz.func31 (by kernel_rfl) rfl
 have HCG := hid (fun W (h1 : NodesR d W nv ns) (h2 : NodesR d' W nv' ns') => gSame_any 4 d d' nv nv' ns ns' out out' W hm h1 h2)
 have HCE := hid (fun W (h1 : InsR W iv ins) (h2 : InsR W iv' ins') => equalE_any 25 #[] eg1 iv iv' ins ins' W h1 h2 (by omega) (fun a b x y W hx hy he h1 h2 => sameEp_any a b x y W h1 h2 (hs2 x hx).1 (hs2 x hx).2 (ht2 y hy).2))
 have HCA := hid (fun W (h1 : ActsR W av acts) (h2 : ActsR W av' acts') => equalA_any 31 #[] eg2 av av' acts acts' W h1 h2 (by omega) (fun a b x y W hx hy he h1 h2 => sameActs_any x.1.1 x.1.2.1 x.1.2.2.1 x.1.2.2.2.1 x.1.2.2.2.2 y.1.1 y.1.2.1 y.1.2.2.1 y.1.2.2.2.1 y.1.2.2.2.2 a b x.2 y.2 W h1 h2 (hs4 x hx)))
 have heq := eqInC k0 k1 k2 k3 j0 j1 j2 j3
 have HGD := guardC
 have HT := hid (fun h => @cfgB_t (k0, k1, k2, k3) (j0, j1, j2, j3) h)
 have HFF := hid (fun h => @cfgB_f (k0, k1, k2, k3) (j0, j1, j2, j3) h)
 generalize cfgB (k0, k1, k2, k3) (j0, j1, j2, j3) = fb at *
 obtain ⟨AN, cN, rfl⟩ := hn.form
 obtain ⟨AI, cI, rfl⟩ := hi.form
 obtain ⟨AA, cA, rfl⟩ := ha.form
 obtain ⟨AN', cN', rfl⟩ := hn'.form
 obtain ⟨AI', cI', rfl⟩ := hi'.form
 obtain ⟨AA', cA', rfl⟩ := ha'.form
 clear hn hi ha hn' hi' ha' hs1 hs2 hs3 hs4 ht1 ht2 ht3 ht4 eg1 eg2 hal hsz hm
 go_enter Tryz.func9, Tryz.ntmps9
 go_upto_region 1 with fail
 generalize w.heap.size = p at *
 generalize (w.alloc (scCs (.int .i64 k0) (.int .i64 k1) (.int .i64 k2) (.int .i64 k3) (.slice AN ns.length cN) out (.slice AI ins.length cI) (.slice AA acts.length cA))).alloc (scCs (.int .i64 j0) (.int .i64 j1) (.int .i64 j2) (.int .i64 j3) (.slice AN' ns'.length cN') out' (.slice AI' ins'.length cI') (.slice AA' acts'.length cA')) = w0 at *
 obtain ⟨c0, c1, c2, c3, c4, c5, c6, c7⟩ := HB.out.at_
 obtain ⟨y0, y1, y2, y3, y4, y5, y6, y7⟩ := HC.out.at_
 by_cases hab : (k0, k1, k2, k3) = (j0, j1, j2, j3)
 case neg =>
  obtain rfl : fb = false := HFF.out hab
  have HN := hid (show ¬ ((k0, k1, k2, k3) = (j0, j1, j2, j3) ∧ ((ns, out) : Gr.G) = (ns', out') ∧ ins.map srtE = ins'.map srtE ∧ acts = acts') from fun q => hab q.1)
  clear hab
  go_wp2
  go_ret
  exact HNO.out _ _ HN.out rfl HX.out
 obtain rfl : fb = true := HT.out hab
 have HAB := hid hab
 clear hab
 go_wp2_with fail
 refine (HCG.out _ HN.out.1 HN.out.2).mono ?_
 rintro e w1 ⟨b1, rfl, hb1, he1⟩
 have HX1 := hid (HX.out.trans he1)
 have HE1 := hid he1
 have HB1 := hid (HB.out.ext he1)
 have HC1 := hid (HC.out.ext he1)
 have H1 := hid hb1
 clear he1 hb1 c0 c1 c2 c3 c4 c5 c6 c7 y0 y1 y2 y3 y4 y5 y6 y7 heq HGD
 obtain ⟨c0, c1, c2, c3, c4, c5, c6, c7⟩ := HB1.out.at_
 obtain ⟨y0, y1, y2, y3, y4, y5, y6, y7⟩ := HC1.out.at_
 cases b1 with
 | false =>
  have HN := hid (show ¬ ((k0, k1, k2, k3) = (j0, j1, j2, j3) ∧ ((ns, out) : Gr.G) = (ns', out') ∧ ins.map srtE = ins'.map srtE ∧ acts = acts') from fun q => by have := H1.out.2 q.2.1; cases this)
  go_wp2
  go_ret
  exact HNO.out _ _ HN.out rfl HX1.out
 | true =>
 go_wp2_with fail
 refine (HCE.out _ (HI.out.1.ext HE1.out) (HI.out.2.ext HE1.out)).mono ?_
 rintro e w2 ⟨b2, rfl, hb2, he2⟩
 have HX2 := hid (HX1.out.trans he2)
 have HE2 := hid (HE1.out.trans he2)
 have HB2 := hid (HB1.out.ext he2)
 have HC2 := hid (HC1.out.ext he2)
 have H2 := hid hb2
 clear he2 hb2 c0 c1 c2 c3 c4 c5 c6 c7 y0 y1 y2 y3 y4 y5 y6 y7
 obtain ⟨c0, c1, c2, c3, c4, c5, c6, c7⟩ := HB2.out.at_
 obtain ⟨y0, y1, y2, y3, y4, y5, y6, y7⟩ := HC2.out.at_
 cases b2 with
 | false =>
  have HN := hid (show ¬ ((k0, k1, k2, k3) = (j0, j1, j2, j3) ∧ ((ns, out) : Gr.G) = (ns', out') ∧ ins.map srtE = ins'.map srtE ∧ acts = acts') from fun q => by have := H2.out.2 q.2.2.1; cases this)
  go_wp2
  go_ret
  exact HNO.out _ _ HN.out rfl HX2.out
 | true =>
 go_wp2_with fail
 refine (HCA.out _ (HA.out.1.ext HE2.out) (HA.out.2.ext HE2.out)).mono ?_
 rintro e w3 ⟨b3, rfl, hb3, he3⟩
 have HX3 := hid (HX2.out.trans he3)
 have H3 := hid (show b3 = true ↔ acts = acts' from by rw [hb3]; simp)
 clear he3 hb3 c0 c1 c2 c3 c4 c5 c6 c7 y0 y1 y2 y3 y4 y5 y6 y7
 cases b3 with
 | false =>
  have HN := hid (show ¬ ((k0, k1, k2, k3) = (j0, j1, j2, j3) ∧ ((ns, out) : Gr.G) = (ns', out') ∧ ins.map srtE = ins'.map srtE ∧ acts = acts') from fun q => by have := H3.out.2 q.2.2.2; cases this)
  go_wp2
  go_ret
  exact HNO.out _ _ HN.out rfl HX3.out
 | true =>
  have HN := hid (show ((k0, k1, k2, k3) = (j0, j1, j2, j3) ∧ ((ns, out) : Gr.G) = (ns', out') ∧ ins.map srtE = ins'.map srtE ∧ acts = acts') from ⟨HAB.out, H1.out.1 (by trivial), H2.out.1 (by trivial), H3.out.1 (by trivial)⟩)
  go_wp2
  go_ret
  exact HYES.out _ _ HN.out rfl HX3.out
end Go.Proofs.YtpmpjjhchkoboaaGreatDoor
