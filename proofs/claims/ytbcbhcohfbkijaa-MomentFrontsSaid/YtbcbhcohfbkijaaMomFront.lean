/-
  The walks of the front of moments.
-/
import Derived.Test.YtbcbhcohfbkijaaMomSort
import Derived.Test.YtbcbhcohfbkijaaMomRef
namespace Go.Proofs.Ytbcbhcohfbkijaa
open Go.RowKit Go.Ox Go.Shelf
attribute [local irreducible] OP RP

theorem step_take (s : List Mom.M) (k : Nat) (h : k < s.length) : Mom.front (s.take (k + 1)) = Mom.step (Mom.front (s.take k)) s[k] := by
  unfold Mom.front
  rw [List.take_succ_eq_append_getElem h, List.foldl_append]; rfl
theorem front_len : ∀ (s out : List Mom.M), (s.foldl Mom.step out).length ≤ out.length + s.length
  | [], out => by simp
  | m :: s, out => by
    have := front_len s (Mom.step out m)
    have h2 : (Mom.step out m).length ≤ out.length + 1 := by unfold Mom.step; split <;> simp
    rw [List.foldl_cons, List.length_cons]; omega

set_option maxRecDepth 100000 in
set_option maxHeartbeats 1000000 in
theorem front_bad (v : Value) (l : List Mom.M) (w : World) (hv : RP w v l) (hl : l.length ≤ 1000000) (hb : (l.any fun x => !Mom.ok x) = true) :
    Calls Try.prog 20 #[v] w fun e w' => e = .returned (.tuple #[.slice none 0 0, .int .i64 40]) ∧ Ext w w' := by
  have eg : ∀ args w, (callFunc 38 args).run Try.prog w = .ok (.enter 38 args) w := enters_of Try.func38 (by kernel_rfl) rfl
  have HC := Lib.hid (containsF_any (fun x => !Mom.ok x) 38 #[] eg v l w hv (front1_gives w) (by omega))
  rw [hb] at HC
  obtain ⟨A, c, rfl⟩ := hv.form
  clear eg hv hb
  go_enter Try.func20, Try.ntmps20
  go_wp2_with (go_at_call 37; refine HC.out.mono ?_; rintro e w1 ⟨rfl, he1⟩)
  go_ret2
  exact ⟨rfl, he1⟩

/-- what the front of moments that may be leaves -/
def FrontPost (l : List Mom.M) (w : World) (e : Ending) (w' : World) : Prop :=
  ∃ s : List Mom.M, s.Perm l ∧ s.Pairwise (fun a b => ¬ Mom.lt b a) ∧ Ext w w' ∧
    ((256 < (Mom.front s).length ∧ e = .returned (.tuple #[.slice none 0 0, .int .i64 31])) ∨
     ((Mom.front s).length ≤ 256 ∧ ∃ v, e = .returned (.tuple #[v, .int .i64 0]) ∧ OP 23 w.heap.size w' v (Mom.front s)))
set_option maxRecDepth 100000 in
set_option maxHeartbeats 1000000 in
theorem front_ok (v : Value) (l : List Mom.M) (w : World) (hv : RP w v l) (hl : l.length ≤ 1000000) (hb : (l.any fun x => !Mom.ok x) = false) :
    Calls Try.prog 20 #[v] w (FrontPost l w) := by
  have eg : ∀ args w, (callFunc 38 args).run Try.prog w = .ok (.enter 38 args) w := enters_of Try.func38 (by kernel_rfl) rfl
  have HC := Lib.hid (containsF_any (fun x => !Mom.ok x) 38 #[] eg v l w hv (front1_gives w) (by omega))
  rw [hb] at HC
  obtain ⟨A, c, rfl⟩ := hv.form
  have HV := Lib.hid hv
  clear eg hv hb
  go_enter Try.func20, Try.ntmps20
  go_wp2_with fail
  refine HC.out.mono ?_
  rintro e w1 ⟨rfl, he1⟩
  go_wp2_with fail
  refine (cloneM_any _ l w1 (HV.out.ext he1) (by omega)).mono ?_
  rintro e w2 ⟨v2, rfl, ho2, he2⟩
  have HO2 := Lib.hid ho2
  obtain ⟨A2, c2, rfl⟩ := ho2.rp.form
  have HX2 := Lib.hid (he1.trans he2)
  clear ho2
  go_wp2_with fail
  refine (sortM_any _ l w1.heap.size w2 HO2.out (by omega)).mono ?_
  rintro e w3 ⟨rfl, s, hp, hs, ho3, hg3⟩
  have hx3 : Ext w w3 := HX2.out.grown hg3 fun k hk => Nat.le_trans he1.size (HO2.out.own.lt k hk).1
  have hsl := hp.length_eq
  have HS3 := Lib.hid ho3.rp
  have HX3 := Lib.hid hx3
  have HP := Lib.hid hp
  have HQ := Lib.hid hs
  have HL := Lib.hid hsl
  rw [← hsl] at HS3 ⊢
  rw [← hsl] at hl
  clear hp hs ho3 hg3 hx3 hsl he1 he2 HO2 HX2
  go_wp2
  go_loopw [5, 16] (fun o i wr => ∃ k : Nat, k ≤ s.length ∧ i = .int .i64 k ∧ OP 23 w3.heap.size wr o (Mom.front (s.take k)) ∧ Ext w3 wr) (fun _ i _ => s.length - (intOf i).toNat)
  case atStart => exact ⟨0, Nat.zero_le _, rfl, OP.nilS _ _ _, Ext.refl _⟩
  case round =>
    obtain ⟨k, hk, rfl, ho, hext⟩ := hrel
    have HO := Lib.hid ho
    have HE := Lib.hid hext
    have HS := Lib.hid (HS3.out.ext hext)
    clear ho hext
    by_cases hlt : k < s.length
    · have g1 : (k : Int) < (s.length : Int) := by omega
      have g0 : 0 ≤ (k : Int) := by omega
      obtain ⟨b, o, rfl, c0, c1⟩ := HS.out.at_ hlt
      have hst := step_take s k hlt
      have hfl := front_len (s.take k) []
      rw [List.length_nil, Nat.zero_add, List.length_take, Nat.min_eq_left hk] at hfl
      have HST := Lib.hid hst
      have hfl : (Mom.front (s.take k)).length ≤ k := hfl
      clear hst
      generalize hF : Mom.front (s.take k) = F at *
      obtain ⟨A5, c5, rfl⟩ := HO.out.rp.form
      generalize s[k] = m at *
      obtain ⟨m1, m2⟩ := m
      dsimp only at *
      have HF := Lib.hid hF
      clear hF
      have HCO := Lib.hid (fun w5 (he : Ext wr w5) => covers_any _ F (m1, m2) w5 (HO.out.rp.ext he) (by omega))
      cases hq : Mom.covers F (m1, m2) with
      | true =>
        rw [hq] at HCO
        go_wp2_with fail
        refine (HCO.out _ ((Ext.refl _).alloc _)).mono ?_
        rintro e w5 ⟨rfl, he5⟩
        have HX5 := Lib.hid (((Ext.refl wr).alloc _).trans he5)
        clear he5
        go_wp2
        refine ⟨⟨k + 1, by omega, by go_num, ?_, HE.out.trans HX5.out⟩, by simp [intOf]; omega⟩
        rw [HST.out]
        unfold Mom.step
        rw [if_pos hq]
        exact HO.out.ext HX5.out
      | false =>
        rw [hq] at HCO
        go_wp2_with fail
        refine (HCO.out _ ((Ext.refl _).alloc _)).mono ?_
        rintro e w5 ⟨rfl, he5⟩
        have hx5 : Ext wr w5 := ((Ext.refl wr).alloc _).trans he5
        have hm := Blk.new wr 23 #[.int .i64 m1, .int .i64 m2]
        obtain ⟨d0, d1⟩ : w5.cell? ⟨wr.heap.size, 0, none⟩ = some (.int .i64 m1) ∧ w5.cell? ⟨wr.heap.size, 1, none⟩ = some (.int .i64 m2) := ⟨(hm.ext he5).cell 0, (hm.ext he5).cell 1⟩
        have HX5 := Lib.hid hx5
        have HLT := Lib.hid (RP.lit w5 #[.int .i64 m1, .int .i64 m2] 23 1 [(m1, m2)] rfl (by omega) rfl)
        have HO5 := Lib.hid ((HO.out.ext hx5).ext ((Ext.refl _).alloc (.cells #[.int .i64 m1, .int .i64 m2] 23))).own
        have hz : w3.heap.size ≤ (w5.alloc (.cells #[.int .i64 m1, .int .i64 m2] 23)).heap.size := Nat.le_trans HE.out.size (hx5.alloc _).size
        have HZ := Lib.hid hz
        clear he5 hx5 hm hz
        go_wp2_with (at_builtin; refine wpList_app rfl elemM _ _ _ rfl w3.heap.size _ F.length _ rfl HO5.out _ 1 _ rfl HLT.out.rd (one_pV _) (by omega) (by unfold maxLen; omega) HZ.out ?_; intro v6 w6 ha)
        refine ⟨⟨k + 1, by omega, by go_num, ?_, ?_⟩, by simp [intOf]; omega⟩
        · rw [HST.out]
          unfold Mom.step
          rw [if_neg (by rw [hq]; simp)]
          exact OP.app ha.own
        · exact ha.ext (HE.out.trans (HX5.out.alloc _)) rfl HO5.out
    · obtain rfl : k = s.length := by omega
      rw [List.take_length] at HO
      obtain ⟨A5, c5, rfl⟩ := HO.out.rp.form
      by_cases h256 : 256 < (Mom.front s).length
      · have g1 : (256 : Int) < ((Mom.front s).length : Int) := by omega
        generalize hF : Mom.front s = F at *
        have HF := Lib.hid hF
        clear hF
        go_wp2
        go_ret2
        refine ⟨s, HP.out, HQ.out, HX3.out.trans HE.out, .inl ⟨by rw [HF.out]; exact h256, rfl⟩⟩
      · have g1 : ¬ (256 : Int) < ((Mom.front s).length : Int) := by omega
        generalize hF : Mom.front s = F at *
        have HF := Lib.hid hF
        clear hF
        go_wp2
        go_ret2
        refine ⟨s, HP.out, HQ.out, HX3.out.trans HE.out, .inr ⟨by rw [HF.out]; omega, _, rfl, by rw [HF.out]; exact HO.out.low HX3.out.size⟩⟩
end Go.Proofs.Ytbcbhcohfbkijaa
