/-
  LaChain, packed: what the claim needs of them.
-/
import Derived.Test.YtpmgmiiidfconaaGreatDoorPz38
import Derived.Test.YtpmgmiiidfconaaGreatDoorPz39
import Derived.Test.YtpmgmiiidfconaaGreatDoorPz23
set_option linter.unusedVariables false
set_option linter.unusedSimpArgs false
namespace Go.Proofs.YtpmgmiiidfconaaGreatDoor
open Go.RowKit Go.Ox Go.Ox.Gr Go.Ox.Sc Go.Ox.La Go.Shelf
def chainB1 : Bag := [(1, 2), (2, 3)]
def chainB2 : Bag := [(1, 0)]
def chainG : Sc.Act := ((3, 0, 0, 0, 0), [3])
def chainS : Sc := ⟨(2, 4096, 64, 16384), (reachL, 2), [[chainB1, chainB2]], [chainG]⟩
def chainL : List W := [[99, 111, 110, 102, 105, 103, 32, 50, 32, 52, 48, 57, 54, 32, 54, 52, 32, 49, 54, 51, 56, 52], [110, 48, 32, 61, 32, 105, 110, 112, 117, 116, 32, 48], [110, 49, 32, 61, 32, 105, 110, 112, 117, 116, 32, 49], [110, 50, 32, 61, 32, 108, 111, 111, 112, 32, 57, 32, 110, 49], [98, 48, 32, 61, 32, 118, 97, 114], [98, 49, 32, 61, 32, 111, 117, 116, 101, 114, 32, 110, 48], [98, 50, 32, 61, 32, 112, 97, 105, 114, 32, 99, 114, 111, 115, 115, 32, 98, 48, 32, 98, 49], [98, 51, 32, 61, 32, 109, 97, 112, 32, 115, 119, 97, 112, 32, 98, 50], [98, 52, 32, 61, 32, 109, 97, 112, 32, 118, 97, 108, 109, 111, 100, 32, 49, 32, 98, 51], [98, 53, 32, 61, 32, 99, 111, 110, 99, 97, 116, 32, 98, 48, 32, 98, 52], [98, 54, 32, 61, 32, 100, 105, 115, 116, 105, 110, 99, 116, 32, 98, 53], [101, 110, 100], [111, 117, 116, 32, 110, 50], [101, 112, 111, 99, 104], [105, 110, 32, 49, 58, 50, 32, 50, 58, 51], [105, 110, 32, 49, 58, 48], [99, 114, 97, 115, 104, 32, 51]]
def badL2 : List W := [[99, 111, 110, 102, 105, 103, 32, 49, 32, 50, 32, 51, 32, 52], [110, 48, 32, 61, 32, 105, 110, 112, 117, 116, 32, 48], [110, 49, 32, 61, 32, 109, 97, 112, 32, 97, 100, 100, 32, 110, 48]]
def badL3 : List W := [[99, 111, 110, 102, 105, 103, 32, 49, 32, 50, 32, 51, 32, 52]]
theorem chain_s1 : Rec.srt chainB1 = chainB1 := (Rec.srt_is (by unfold Rec.Asc chainB1; simp [Mom.lt]) (List.Perm.refl _)).symm
theorem chain_s2 : Rec.srt chainB2 = chainB2 := Rec.srt_short (by decide)
theorem chain_b1 : joinL (bagW chainB1) = [105, 110, 32, 49, 58, 50, 32, 50, 58, 51] := by
  unfold bagW
  rw [chain_s1]
  decide +kernel
theorem chain_b2 : joinL (bagW chainB2) = [105, 110, 32, 49, 58, 48] := by
  unfold bagW
  rw [chain_s2]
  decide +kernel
theorem chain_p0 : joinL (cfgLs (2, 4096, 64, 16384)) = [99, 111, 110, 102, 105, 103, 32, 50, 32, 52, 48, 57, 54, 32, 54, 52, 32, 49, 54, 51, 56, 52] := by decide +kernel
theorem chain_p1 : outLs reachL 0 = (chainL.drop 1).take 11 := by decide +kernel
theorem chain_p2 : joinL [outW, nameL 2 false] = [111, 117, 116, 32, 110, 50] := by decide +kernel
theorem chain_p3 : actS chainG = [99, 114, 97, 115, 104, 32, 51] := by decide +kernel
theorem chain_lines : linesS chainS = chainL := by
  have h : linesS chainS = [joinL (cfgLs (2, 4096, 64, 16384))] ++ outLs reachL 0 ++ [joinL [outW, nameL 2 false]] ++ [epochW, joinL (bagW chainB1), joinL (bagW chainB2)] ++ [actS chainG] := rfl
  rw [h, chain_p0, chain_p1, chain_p2, chain_b1, chain_b2, chain_p3]
  rfl
theorem nok (o k f m : Nat) (ins : List Int) (bd : List Nd) (i : Nat) (body : Bool) (h1 : o < 12) (h2 : k < 24) (h3 : f < 9223372036854775808) (h4 : m < 9223372036854775808) (h5 : ∀ x ∈ ins, 0 ≤ x ∧ x < 9223372036854775808) (h6 : ins.length ≤ 1000) (h7 : mayB (.mk o ins k f m bd) body = true) (h8 : (joinL (nodeW (.mk o ins k f m bd) i body)).length ≤ 100) : NOk (.mk o ins k f m bd) i body := ⟨o, k, f, m, ins, bd, rfl, h1, h2, h3, h4, h5, h6, h7, h8⟩
theorem chain_nb : ∀ (j : Nat) (hj : j < reachB.length), NOk reachB[j] j true
  | 0, _ => nok 10 0 0 0 [] [] 0 true (by decide) (by decide) (by decide) (by decide) (by decide) (by decide) (by rfl) (by decide +kernel)
  | 1, _ => nok 11 0 0 0 [] [] 1 true (by decide) (by decide) (by decide) (by decide) (by decide) (by decide) (by rfl) (by decide +kernel)
  | 2, _ => nok 6 23 0 0 [0, 1] [] 2 true (by decide) (by decide) (by decide) (by decide) (by decide) (by decide) (by rfl) (by decide +kernel)
  | 3, _ => nok 2 3 0 0 [2] [] 3 true (by decide) (by decide) (by decide) (by decide) (by decide) (by decide) (by rfl) (by decide +kernel)
  | 4, _ => nok 2 5 1 0 [3] [] 4 true (by decide) (by decide) (by decide) (by decide) (by decide) (by decide) (by rfl) (by decide +kernel)
  | 5, _ => nok 8 0 0 0 [0, 4] [] 5 true (by decide) (by decide) (by decide) (by decide) (by decide) (by decide) (by rfl) (by decide +kernel)
  | 6, _ => nok 7 0 0 0 [5] [] 6 true (by decide) (by decide) (by decide) (by decide) (by decide) (by decide) (by rfl) (by decide +kernel)
  | n + 7, h => absurd h (by simp [reachB])
theorem chain_no : ∀ (i : Nat) (hi : i < reachL.length), NOk reachL[i] i false
  | 0, _ => nok 1 0 0 0 [] [] 0 false (by decide) (by decide) (by decide) (by decide) (by decide) (by decide) (by rfl) (by decide +kernel)
  | 1, _ => nok 1 0 0 1 [] [] 1 false (by decide) (by decide) (by decide) (by decide) (by decide) (by decide) (by rfl) (by decide +kernel)
  | 2, _ => nok 9 0 0 9 [1] reachB 2 false (by decide) (by decide) (by decide) (by decide) (by decide) (by decide) (by rfl) (by decide +kernel)
  | n + 3, h => absurd h (by simp [reachL, reachN])
theorem chain_ns : NsOk reachL := ⟨by decide, chain_no, fun i hi h9 => by
  match i, hi with
  | 0, _ => exact absurd (show (1 : Int) = 9 from h9) (by decide)
  | 1, _ => exact absurd (show (1 : Int) = 9 from h9) (by decide)
  | 2, _ => exact (show reachB.length ≤ 40 ∧ ∀ (j : Nat) (hj : j < reachB.length), NOk reachB[j] j true from ⟨by decide, chain_nb⟩)
  | n + 3, h => exact absurd h (by simp [reachL, reachN])⟩
theorem chain_sm : ScSm chainS := ⟨by decide, by intro l hl; simp [chainS] at hl; subst hl; exact ⟨by decide, fun b hb => by simp at hb; rcases hb with rfl | rfl <;> decide⟩, by decide, by intro a ha; simp [chainS] at ha; subst ha; decide⟩
theorem chain_ok : scOk chainS = true := by decide +kernel
theorem chain_se : scE chainS = 0 := by unfold scE; rw [if_pos chain_ok]
theorem chain_pr : PrOk chainS := ⟨chain_ok, chain_sm, chain_ns, by
  intro l hl b hb
  simp [chainS] at hl
  subst hl
  simp at hb
  rcases hb with rfl | rfl
  · rw [chain_s1]; exact ⟨by decide, by decide, by decide⟩
  · rw [chain_s2]; exact ⟨by decide, by decide, by decide⟩, by rw [chain_lines]; decide +kernel⟩
theorem chain_text : TextOk chainL := ⟨by decide +kernel, by decide +kernel, by decide +kernel, by decide +kernel, by decide +kernel⟩
theorem bad_text2 : TextOk badL2 := ⟨by decide +kernel, by decide +kernel, by decide +kernel, by decide +kernel, by decide +kernel⟩
theorem bad_text3 : TextOk badL3 := ⟨by decide +kernel, by decide +kernel, by decide +kernel, by decide +kernel, by decide +kernel⟩
theorem of_leads {L : List W} {st : Nat → PSt} {i : Nat} {hi : i < L.length} {l : List W} (h : wordsL (L.getD i []) = l) (hl : Leads l (st i) (st (i + 1))) : LineOk L (fun i p C w => (st i).At p C w) i hi := by
  have e : L.getD i [] = L[i] := by simp [List.getD, hi]
  rw [e] at h
  subst h
  exact hl
theorem of_leadsNot {L : List W} {st : Nat → PSt} {i : Nat} {hi : i < L.length} {l : List W} (h : wordsL (L.getD i []) = l) (hl : LeadsNot l (st i)) : LineBad L (fun i p C w => (st i).At p C w) i hi := by
  have e : L.getD i [] = L[i] := by simp [List.getD, hi]
  rw [e] at h
  subst h
  exact hl
theorem st_ok {st : Nat → PSt} (h : st 0 = .z) : StateOk fun i p C w => (st i).At p C w := ⟨fun p C w hb _ _ => by rw [h]; exact hb, fun i p C w w' h he => PSt.ext h he⟩
abbrev cfgC : Cfg4 := (2, 4096, 64, 16384)
abbrev cfgD : Cfg4 := (1, 2, 3, 4)
def nd0 : Nd := .mk 1 [] 0 0 0 []
def nd1 : Nd := .mk 1 [] 0 0 1 []
def nd2 : Nd := .mk 9 [1] 0 0 9 []
/-- the chain's states -/
def chainT : Nat → PSt
  | 0 => .z
  | 1 => .n cfgC []
  | 2 => .n cfgC [nd0]
  | 3 => .n cfgC [nd0, nd1]
  | 4 => .b cfgC [nd0, nd1] nd2 (reachB.take 0)
  | 5 => .b cfgC [nd0, nd1] nd2 (reachB.take 1)
  | 6 => .b cfgC [nd0, nd1] nd2 (reachB.take 2)
  | 7 => .b cfgC [nd0, nd1] nd2 (reachB.take 3)
  | 8 => .b cfgC [nd0, nd1] nd2 (reachB.take 4)
  | 9 => .b cfgC [nd0, nd1] nd2 (reachB.take 5)
  | 10 => .b cfgC [nd0, nd1] nd2 (reachB.take 6)
  | 11 => .b cfgC [nd0, nd1] nd2 (reachB.take 7)
  | 12 => .e cfgC reachL
  | 13 => .o cfgC reachL 2
  | 14 => .ep cfgC reachL 2 []
  | 15 => .ep cfgC reachL 2 [chainB1]
  | 16 => .ep cfgC reachL 2 [chainB1, chainB2]
  | _ => .a cfgC reachL 2 [chainB1, chainB2] [chainG]
def badT : Nat → PSt
  | 0 => .z
  | 1 => .n cfgD []
  | _ => .n cfgD [nd0]
theorem chain_0 (hi : 0 < chainL.length) : LineOk chainL (fun i p C w => (chainT i).At p C w) 0 hi := of_leads (st := chainT) (l := cfgW :: [[50], [52, 48, 57, 54], [54, 52], [49, 54, 51, 56, 52]]) (by decide +kernel) (leads_config _ 2 4096 64 16384 (by decide) (by decide) (by rfl) (by rfl))
theorem chain_1 (hi : 1 < chainL.length) : LineOk chainL (fun i p C w => (chainT i).At p C w) 1 hi := of_leads (st := chainT) (l := nameL 0 false :: [61] :: [105, 110, 112, 117, 116] :: [[48]]) (by decide +kernel) (leads_node cfgC 1 [105, 110, 112, 117, 116] [[48]] [] (.mk 1 [] 0 0 0 []) ⟨by simp, by decide +kernel⟩ (by decide) (by decide) (by decide) (by decide) (by decide) (by rfl) (by decide) (by decide) (by rfl) (by rfl))
theorem chain_2 (hi : 2 < chainL.length) : LineOk chainL (fun i p C w => (chainT i).At p C w) 2 hi := of_leads (st := chainT) (l := nameL 1 false :: [61] :: [105, 110, 112, 117, 116] :: [[49]]) (by decide +kernel) (leads_node cfgC 1 [105, 110, 112, 117, 116] [[49]] [nd0] (.mk 1 [] 0 0 1 []) ⟨by simp, by decide +kernel⟩ (by decide) (by decide) (by decide) (by decide) (by decide) (by rfl) (by decide) (by decide) (by rfl) (by rfl))
theorem chain_3 (hi : 3 < chainL.length) : LineOk chainL (fun i p C w => (chainT i).At p C w) 3 hi := of_leads (st := chainT) (l := nameL 2 false :: [61] :: [108, 111, 111, 112] :: [[57], [110, 49]]) (by decide +kernel) (leads_node cfgC 9 [108, 111, 111, 112] [[57], [110, 49]] [nd0, nd1] (.mk 9 [1] 0 0 9 []) ⟨by simp, by decide +kernel⟩ (by decide) (by decide) (by decide) (by decide) (by decide) (by rfl) (by decide) (by decide) (by rfl) (by rfl))
theorem chain_4 (hi : 4 < chainL.length) : LineOk chainL (fun i p C w => (chainT i).At p C w) 4 hi := of_leads (st := chainT) (l := nameL 0 true :: [61] :: [118, 97, 114] :: []) (by decide +kernel) (leads_inner cfgC 10 [118, 97, 114] [] [nd0, nd1] (reachB.take 0) nd2 (.mk 10 [] 0 0 0 []) (by decide) (by decide) (by decide) (by decide) (by decide) (by decide) (by rfl) (by decide) (by decide) (by rfl) (by rfl))
theorem chain_5 (hi : 5 < chainL.length) : LineOk chainL (fun i p C w => (chainT i).At p C w) 5 hi := of_leads (st := chainT) (l := nameL 1 true :: [61] :: [111, 117, 116, 101, 114] :: [[110, 48]]) (by decide +kernel) (leads_inner cfgC 11 [111, 117, 116, 101, 114] [[110, 48]] [nd0, nd1] (reachB.take 1) nd2 (.mk 11 [] 0 0 0 []) (by decide) (by decide) (by decide) (by decide) (by decide) (by decide) (by rfl) (by decide) (by decide) (by rfl) (by rfl))
theorem chain_6 (hi : 6 < chainL.length) : LineOk chainL (fun i p C w => (chainT i).At p C w) 6 hi := of_leads (st := chainT) (l := nameL 2 true :: [61] :: [112, 97, 105, 114] :: [[99, 114, 111, 115, 115], [98, 48], [98, 49]]) (by decide +kernel) (leads_inner cfgC 6 [112, 97, 105, 114] [[99, 114, 111, 115, 115], [98, 48], [98, 49]] [nd0, nd1] (reachB.take 2) nd2 (.mk 6 [0, 1] 23 0 0 []) (by decide) (by decide) (by decide) (by decide) (by decide) (by decide) (by rfl) (by decide) (by decide) (by rfl) (by rfl))
theorem chain_7 (hi : 7 < chainL.length) : LineOk chainL (fun i p C w => (chainT i).At p C w) 7 hi := of_leads (st := chainT) (l := nameL 3 true :: [61] :: [109, 97, 112] :: [[115, 119, 97, 112], [98, 50]]) (by decide +kernel) (leads_inner cfgC 2 [109, 97, 112] [[115, 119, 97, 112], [98, 50]] [nd0, nd1] (reachB.take 3) nd2 (.mk 2 [2] 3 0 0 []) (by decide) (by decide) (by decide) (by decide) (by decide) (by decide) (by rfl) (by decide) (by decide) (by rfl) (by rfl))
theorem chain_8 (hi : 8 < chainL.length) : LineOk chainL (fun i p C w => (chainT i).At p C w) 8 hi := of_leads (st := chainT) (l := nameL 4 true :: [61] :: [109, 97, 112] :: [[118, 97, 108, 109, 111, 100], [49], [98, 51]]) (by decide +kernel) (leads_inner cfgC 2 [109, 97, 112] [[118, 97, 108, 109, 111, 100], [49], [98, 51]] [nd0, nd1] (reachB.take 4) nd2 (.mk 2 [3] 5 1 0 []) (by decide) (by decide) (by decide) (by decide) (by decide) (by decide) (by rfl) (by decide) (by decide) (by rfl) (by rfl))
theorem chain_9 (hi : 9 < chainL.length) : LineOk chainL (fun i p C w => (chainT i).At p C w) 9 hi := of_leads (st := chainT) (l := nameL 5 true :: [61] :: [99, 111, 110, 99, 97, 116] :: [[98, 48], [98, 52]]) (by decide +kernel) (leads_inner cfgC 8 [99, 111, 110, 99, 97, 116] [[98, 48], [98, 52]] [nd0, nd1] (reachB.take 5) nd2 (.mk 8 [0, 4] 0 0 0 []) (by decide) (by decide) (by decide) (by decide) (by decide) (by decide) (by rfl) (by decide) (by decide) (by rfl) (by rfl))
theorem chain_10 (hi : 10 < chainL.length) : LineOk chainL (fun i p C w => (chainT i).At p C w) 10 hi := of_leads (st := chainT) (l := nameL 6 true :: [61] :: [100, 105, 115, 116, 105, 110, 99, 116] :: [[98, 53]]) (by decide +kernel) (leads_inner cfgC 7 [100, 105, 115, 116, 105, 110, 99, 116] [[98, 53]] [nd0, nd1] (reachB.take 6) nd2 (.mk 7 [5] 0 0 0 []) (by decide) (by decide) (by decide) (by decide) (by decide) (by decide) (by rfl) (by decide) (by decide) (by rfl) (by rfl))
theorem chain_11 (hi : 11 < chainL.length) : LineOk chainL (fun i p C w => (chainT i).At p C w) 11 hi := of_leads (st := chainT) (l := [enW9]) (by decide +kernel) (leads_end cfgC [nd0, nd1] reachB nd2)
theorem chain_12 (hi : 12 < chainL.length) : LineOk chainL (fun i p C w => (chainT i).At p C w) 12 hi := of_leads (st := chainT) (l := [outW9, [110, 50]]) (by decide +kernel) (leads_out cfgC reachL [110, 50] 2 (by decide) (by rfl))
theorem chain_13 (hi : 13 < chainL.length) : LineOk chainL (fun i p C w => (chainT i).At p C w) 13 hi := of_leads (st := chainT) (l := [epW9]) (by decide +kernel) (leads_epoch cfgC reachL 2)
theorem chain_14 (hi : 14 < chainL.length) : LineOk chainL (fun i p C w => (chainT i).At p C w) 14 hi := of_leads (st := chainT) (l := [105, 110] :: [[49, 58, 50], [50, 58, 51]]) (by decide +kernel) (leads_in cfgC reachL 2 [] [[49, 58, 50], [50, 58, 51]] (by decide) (by decide) (by decide +kernel) (by decide))
theorem chain_15 (hi : 15 < chainL.length) : LineOk chainL (fun i p C w => (chainT i).At p C w) 15 hi := of_leads (st := chainT) (l := [105, 110] :: [[49, 58, 48]]) (by decide +kernel) (leads_in cfgC reachL 2 [chainB1] [[49, 58, 48]] (by decide) (by decide) (by decide +kernel) (by decide))
theorem chain_16 (hi : 16 < chainL.length) : LineOk chainL (fun i p C w => (chainT i).At p C w) 16 hi := of_leads (st := chainT) (l := [99, 114, 97, 115, 104] :: [[51]]) (by decide +kernel) (leads_act cfgC reachL 2 [chainB1, chainB2] [99, 114, 97, 115, 104] [[51]] chainG (by decide) (by decide) (by decide) (by decide) (by rfl))
theorem chain_all : ∀ i, i < 17 → ∀ hi : i < chainL.length, LineOk chainL (fun i p C w => (chainT i).At p C w) i hi
  | 0, _, hi => chain_0 hi
  | 1, _, hi => chain_1 hi
  | 2, _, hi => chain_2 hi
  | 3, _, hi => chain_3 hi
  | 4, _, hi => chain_4 hi
  | 5, _, hi => chain_5 hi
  | 6, _, hi => chain_6 hi
  | 7, _, hi => chain_7 hi
  | 8, _, hi => chain_8 hi
  | 9, _, hi => chain_9 hi
  | 10, _, hi => chain_10 hi
  | 11, _, hi => chain_11 hi
  | 12, _, hi => chain_12 hi
  | 13, _, hi => chain_13 hi
  | 14, _, hi => chain_14 hi
  | 15, _, hi => chain_15 hi
  | 16, _, hi => chain_16 hi
  | n + 17, h, _ => absurd h (by omega)
theorem bad_0 (hi : 0 < badL2.length) : LineOk badL2 (fun i p C w => (badT i).At p C w) 0 hi := of_leads (st := badT) (l := cfgW :: [[49], [50], [51], [52]]) (by decide +kernel) (leads_config _ 1 2 3 4 (by decide) (by decide) (by rfl) (by rfl))
theorem bad_1 (hi : 1 < badL2.length) : LineOk badL2 (fun i p C w => (badT i).At p C w) 1 hi := of_leads (st := badT) (l := nameL 0 false :: [61] :: [105, 110, 112, 117, 116] :: [[48]]) (by decide +kernel) (leads_node cfgD 1 [105, 110, 112, 117, 116] [[48]] [] (.mk 1 [] 0 0 0 []) ⟨by simp, by decide +kernel⟩ (by decide) (by decide) (by decide) (by decide) (by decide) (by rfl) (by decide) (by decide) (by rfl) (by rfl))
theorem bad_2 (hi : 2 < badL2.length) : LineBad badL2 (fun i p C w => (badT i).At p C w) 2 hi := of_leadsNot (st := badT) (l := nameL 1 false :: [61] :: [109, 97, 112] :: [[97, 100, 100], [110, 48]]) (by decide +kernel) (leads_nodeNot cfgD 2 [109, 97, 112] [[97, 100, 100], [110, 48]] [nd0] (by decide +kernel) (by decide) (by decide) (by decide) (by decide) (by decide) (by rfl) (by decide) (by decide) (by rfl))
theorem bad_3 (hi : 0 < badL3.length) : LineOk badL3 (fun i p C w => (badT i).At p C w) 0 hi := of_leads (st := badT) (l := cfgW :: [[49], [50], [51], [52]]) (by decide +kernel) (leads_config _ 1 2 3 4 (by decide) (by decide) (by rfl) (by rfl))
/-- the three texts of lives, parsed -/
theorem chain_parse (w : World) (ht : Ptb w) : Calls Tryz.prog 13 #[strV (linesT chainL)] w fun e w' => ∃ nv iv av, e = .returned (.tuple #[scAg chainS nv iv av, .int .i64 0, .int .i64 0]) ∧ ScR 2 w' nv iv av chainS ∧ Ext w w' :=
  parse_ok chainL (fun i p C w => (chainT i).At p C w) 17 w chain_text (st_ok rfl) ht chain_all 2 4096 64 16384 2 reachL [[chainB1, chainB2]] [chainG] rfl (fun p C W ⟨nv, iv, av, h1, h2⟩ => ⟨nv, iv, av, 5, h1, by decide, h2⟩) chain_sm chain_se
theorem bad_parse2 (w : World) (ht : Ptb w) : Calls Tryz.prog 13 #[strV (linesT badL2)] w fun e w' => e = .returned (.tuple #[zSc 0 0 0 0 (.slice none 0 0) 0 (.slice none 0 0) (.slice none 0 0), .int .i64 3, .int .i64 290]) ∧ Ext w w' :=
  parse_bad badL2 (fun i p C w => (badT i).At p C w) 2 w bad_text2 (st_ok rfl) ht (fun i h hi => by match i, h, hi with | 0, _, hi => exact bad_0 hi | 1, _, hi => exact bad_1 hi | n + 2, h, _ => exact absurd h (by omega)) (by decide) (bad_2 _)
theorem bad_parse3 (w : World) (ht : Ptb w) : Calls Tryz.prog 13 #[strV (linesT badL3)] w fun e w' => e = .returned (.tuple #[zSc 0 0 0 0 (.slice none 0 0) 0 (.slice none 0 0) (.slice none 0 0), .int .i64 2, .int .i64 290]) ∧ Ext w w' :=
  parse_short badL3 (fun i p C w => (badT i).At p C w) 1 w bad_text3 (st_ok rfl) ht (fun i h hi => by match i, h, hi with | 0, _, hi => exact bad_3 hi | n + 1, h, _ => exact absurd h (by omega)) rfl (fun p C W ⟨nv, h1, h2⟩ => ⟨_, _, _, _, nv, _, _, _, 1, h1, by decide⟩)
end Go.Proofs.YtpmgmiiidfconaaGreatDoor
