/-
  slices.Collect of slices.Chunk at bytes, 42 at a time.
-/
import Derived.Test.YtklnbmcfnnmliaaDoorChunk
namespace Go.Proofs.YtklnbmcfnnmliaaDoor
open Go.RowKit Go.Shelf Go.Ox
attribute [local go_sem] Oper.semAt_some

theorem infoS : (Tryd.prog.info? 22).map (fun i => (i.zero, i.size, i.bytes)) = some (some (.slice none 0 0), 1, 24) := by kernel_rfl
theorem chunkV_one (b o len : Nat) (x : Nat) : (chunkV b o len x).oneCell' = true := rfl

set_option maxRecDepth 100000 in
set_option maxHeartbeats 2000000 in
theorem appendSeq_in (F : Fence) (n : Nat) (hA : F.fn 38) (hC : F.fn 39) (hro : F.round = none) (hn : 3 ≤ n) (Bs Bn b o len : Nat) (hlen : len ≤ 1000000) (Sp : List Nat → Prop) (w : World)
    (hseq : SeqStopsK F (n - 1) Tryd.prog 39 #[.pointer (some ⟨Bs, 0, none⟩), .pointer (some ⟨Bn, 0, none⟩)] (fun x : Nat => #[chunkV b o len x]) (Below w.heap.size) (fun ys => ys = List.range (chunksN len)) Sp (chunksN len) (w.alloc (.cells #[.slice none 0 0] 33))) :
    CallsIn F n Tryd.prog 38 #[.slice none 0 0, .func (.func 39) #[] #[.pointer (some ⟨Bs, 0, none⟩), .pointer (some ⟨Bn, 0, none⟩)]] w fun e W' =>
      ∃ v, e = .returned v ∧ W'.ownsRow w.heap.size 22 1 v (chunksN len) ((List.range (chunksN len)).map (chunkV b o len)) ∧ Below w.heap.size w W' := by
  have h1 : 1 ≤ n := by omega
  obtain ⟨i0, hi, hz0, hz1, hz2⟩ := info_parts infoS
  have hcn : chunksN len ≤ 30000 := by unfold chunksN; omega
  refine callsIn_of_wp_marks Tryd.func38 rfl hA ?_ hro
  simp only [Tryd.ntmps38, List.size_toArray, List.length_cons, List.length_nil, Nat.reduceAdd, Nat.reduceSub, Array.replicate_succ, Array.replicate_zero, List.push_toArray, List.append_toArray, List.nil_append, List.cons_append]
  gi_wp2
  have bO := Boxed.new w 33 (.slice none 0 0)
  have hB0 : Below w.heap.size w (w.alloc (.cells #[.slice none 0 0] 33)) := (Below.refl _ w).alloc (Nat.le_refl _) _
  refine wpIn_rangeFunc_ownG hro h1 (gf := 39) (lb := #[.pointer (some ⟨Bs, 0, none⟩), .pointer (some ⟨Bn, 0, none⟩)]) rfl hC (enters_of Tryd.func39 (by kernel_rfl) rfl)
    hseq belowK_t (belowK_b (by simp)) (Below.refl _ _) (fun _ => rfl)
    (fun pre W => (∃ v, Boxed W w.heap.size 33 v ∧ W.ownsRow w.heap.size 22 1 v pre.length (pre.map (chunkV b o len)) ∧ True) ∧ Below w.heap.size w W)
    (fun _ _ _ => False)
    (OwnFrom.and (Own.from (holdsRow_own w.heap.size w.heap.size 33 22 1 (fun pre : List Nat => pre.length) (fun pre : List Nat => pre.map (chunkV b o len)) (fun _ _ => True)) _) (ownFrom_below (Nat.le_refl _) (by simp)))
    (fun _ _ _ _ _ hs _ _ => hs)
    ⟨⟨_, bO, World.ownsRow_nil _ _ _ _, trivial⟩, hB0⟩
    (fun x => { tmps := #[.slice none 0 0, .func (.func 39) #[] #[.pointer (some ⟨Bs, 0, none⟩), .pointer (some ⟨Bn, 0, none⟩)], .pointer (some ⟨w.heap.size, 0, none⟩), undef, .slice none 0 0, chunkV b o len x, .func (.func 39) #[] #[.pointer (some ⟨Bs, 0, none⟩), .pointer (some ⟨Bn, 0, none⟩)], chunkV b o len x, undef, undef, undef, undef, undef], defers := [] }) ?assign ?body ?done ?stop
  case assign =>
    intro l x W K hK
    gi_wp2
    exact hK
  case body =>
    rintro l pre x W ⟨⟨v, hv, hrow, _⟩, hB⟩ hlt
    have hc := hv.cell
    unfold chunkV at *
    gi_wp2_with (gi_at_builtin; refine wpListIn_append_own _ rfl _ _ 33 rfl w.heap.size 22 i0 (.slice none 0 0) 1 24 Tryd.underlying33 hi hz0 hz1 hz2 rfl (by decide) _ _ _ rfl (hrow.alloc _) ⟨W.heap.size, 0, none⟩ 1 1 [.slice (some ⟨b, o + 42 * x, none⟩) (chunkQ len x) (chunkQ len x)] rfl rfl (cell_one_new _ _ _) (by simp [Value.oneCell']) (by unfold maxLen; omega) (by omega) (by have := hB.size; simp; omega) ?_; intro v' w1 hown' hgrow _; obtain ⟨g', cap', rfl⟩ := ownsRow_succ hown'; obtain ⟨hv1, hv2, hr2, hk2, hb2⟩ := hv.appended (by decide) hrow hB.size (Nat.le_refl _) hown' hgrow; have hc1 := hv1.cell; have hf1 := hv1.frozen)
    exact ⟨hk2.from _, hb2, ⟨_, hv2, by simpa using hr2, trivial⟩, hB.trans hb2⟩
  case done =>
    rintro D ys W hD rfl ⟨⟨v, hv, hrow, _⟩, hB⟩ hK
    have hc := hv.cell
    gi_wp2
    refine ⟨by simp, .inl ⟨_, _, rfl, run_takeDeferred hK, ?_⟩⟩
    exact ⟨_, results_tmp rfl _ _ _, v, rfl, by have := ownsRow_putObj hrow (.deferred none) hK rfl; simpa using this, hB.trans (belowK_b (w := w) (Nat.le_refl _) W D _ _ (by simp at hD; omega) hK rfl rfl)⟩
  case stop =>
    rintro D c pre W _ _ h _
    exact h.elim

set_option maxRecDepth 100000 in
set_option maxHeartbeats 1000000 in
theorem collect_any (Bs Bn b o len cap : Nat) (hlen : len ≤ 1000000) (hpos : 0 < len) (hcap : len ≤ cap) (w : World)
    (hBs : w.cell? ⟨Bs, 0, none⟩ = some (.slice (some ⟨b, o, none⟩) len cap)) (hBn : w.cell? ⟨Bn, 0, none⟩ = some (.int .i64 42)) :
    Calls Tryd.prog 27 #[.func (.func 39) #[] #[.pointer (some ⟨Bs, 0, none⟩), .pointer (some ⟨Bn, 0, none⟩)]] w fun e W' =>
      ∃ v, e = .returned v ∧ W'.ownsRow w.heap.size 22 1 v (chunksN len) ((List.range (chunksN len)).map (chunkV b o len)) ∧ Ext w W' := by
  have H := Lib.hid ((callsIn_wide (n := 3)).1 (appendSeq_in Fence.wide 3 trivial trivial rfl (by omega) Bs Bn b o len hlen _ w (chunk_stops Fence.wide 2 trivial rfl (by omega) Bs Bn w.heap.size b o len cap hlen hpos hcap (w.alloc (.cells #[.slice none 0 0] 33)) (((Ext.refl w).alloc _).cell hBs) (((Ext.refl w).alloc _).cell hBn) (World.block_lt_of_cell? w _ hBs) (World.block_lt_of_cell? w _ hBn) (by simp))))
  go_enter Tryd.func27, Tryd.ntmps27
  go_wp2_with (go_at_call 38; refine H.out.mono ?_; rintro e w1 ⟨v1, rfl, ho1, he1⟩)
  go_ret
  exact ⟨_, rfl, ho1, he1⟩

-- .. of no bytes: no round
set_option maxRecDepth 100000 in
set_option maxHeartbeats 1000000 in
theorem chunk0_in (F : Fence) (n : Nat) (hF : F.fn 39) (hro : F.round = none) (l Bs Bn cap : Nat) (A : Option Addr) (J : List Nat → World → Prop) (W : World) (hBs : W.cell? ⟨Bs, 0, none⟩ = some (.slice A 0 cap)) (h0 : J [] W) :
    CallsIn F n Tryd.prog 39 #[.func (.yield l) #[] #[], .pointer (some ⟨Bs, 0, none⟩), .pointer (some ⟨Bn, 0, none⟩)] W fun e W' => (∃ v, e = .returned v) ∧ J [] W' := by
  refine callsIn_of_wp Tryd.func39 rfl hF ?_ hro
  simp only [Tryd.ntmps39, List.size_toArray, List.length_cons, List.length_nil, Nat.reduceAdd, Nat.reduceSub, Array.replicate_succ, Array.replicate_zero, List.push_toArray, List.append_toArray, List.nil_append, List.cons_append]
  gi_wp2
  gi_loopw [4] (fun i wr => i = .int .i64 0 ∧ J [] wr ∧ wr.cell? ⟨Bs, 0, none⟩ = some (.slice A 0 cap)) (fun _ _ => 0)
  case atStart => exact ⟨rfl, h0, hBs⟩
  case round =>
    obtain ⟨rfl, hJs, hc⟩ := hrel
    gi_wp2
    go_end0
    exact ⟨⟨_, rfl⟩, hJs⟩
set_option maxRecDepth 100000 in
set_option maxHeartbeats 1000000 in
theorem collect_nil (Bs Bn cap : Nat) (A : Option Addr) (w : World) (hBs : w.cell? ⟨Bs, 0, none⟩ = some (.slice A 0 cap)) :
    Calls Tryd.prog 27 #[.func (.func 39) #[] #[.pointer (some ⟨Bs, 0, none⟩), .pointer (some ⟨Bn, 0, none⟩)]] w fun e W' =>
      ∃ v, e = .returned v ∧ W'.ownsRow w.heap.size 22 1 v 0 [] ∧ Ext w W' := by
  have hs : SeqStopsK Fence.wide 2 Tryd.prog 39 #[.pointer (some ⟨Bs, 0, none⟩), .pointer (some ⟨Bn, 0, none⟩)] (fun x : Nat => #[chunkV 0 0 0 x]) (Below w.heap.size) (fun ys => ys = List.range (chunksN 0)) (fun _ => False) (chunksN 0) (w.alloc (.cells #[.slice none 0 0] 33)) := fun l J Jx W hW _ _ _ h0 =>
    (chunk0_in Fence.wide 2 trivial rfl l Bs Bn cap A J W (by
      have hb : Bs < w.heap.size := World.block_lt_of_cell? w _ hBs
      exact (hW.cell (p := ⟨Bs, 0, none⟩) (by simp; omega)).trans (((Ext.refl w).alloc _).cell hBs)) h0).mono fun e W' ⟨he, hj⟩ => ⟨he, .inl ⟨[], rfl, hj⟩⟩
  have H := Lib.hid ((callsIn_wide (n := 3)).1 (appendSeq_in Fence.wide 3 trivial trivial rfl (by omega) Bs Bn 0 0 0 (by omega) _ w hs))
  go_enter Tryd.func27, Tryd.ntmps27
  go_wp2_with (go_at_call 38; refine H.out.mono ?_; rintro e w1 ⟨v1, rfl, ho1, he1⟩)
  go_ret
  exact ⟨_, rfl, ho1, he1⟩
end Go.Proofs.YtklnbmcfnnmliaaDoor
