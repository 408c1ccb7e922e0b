/-
  GrRdMath, SlcB, NumPut, Num, packed: what the claim needs of them.
-/
import Derived.Test.YtpmpjjhchkoboaaGreatDoorPc06
import Derived.Test.YtpmpjjhchkoboaaGreatDoorPc10
import Derived.Test.YtpmpjjhchkoboaaGreatDoorChecked
import Derived.Test.YtpmpjjhchkoboaaGreatDoorPc01
import Derived.WalkKit
import Derived.WalkSpells
import Derived.WalkLawsBesides
import Derived.StillTailTactics
import Derived.IntWalk
open Go.Lib (hid)
set_option maxHeartbeats 400000
set_option linter.unusedVariables false
set_option maxRecDepth 100000
namespace Go.Ox.Gr
def numsL (l : List Int) : List UInt8 := l.flatMap fun x => Num.put x.toNat
theorem numsL_s (l : List Int) {k : Nat} (h : k < l.length) : numsL (l.take (k + 1)) = numsL (l.take k) ++ Num.put l[k].toNat := by
 unfold numsL
 rw [List.take_succ_eq_append_getElem h, List.flatMap_append]; simp
theorem numsL_app (l r : List Int) : numsL (l ++ r) = numsL l ++ numsL r := by unfold numsL; rw [List.flatMap_append]
theorem put_le9 {n : Nat} (h : n < 9223372036854775808) : (Num.put n).length ≤ 9 := by
 have h1 := Num.put_le n
 have h2 := (Num.width_le 8 n (by omega)).2 (by omega)
 omega
theorem numsL_len : ∀ (l : List Int), (∀ x ∈ l, 0 ≤ x ∧ x < 9223372036854775808) → (numsL l).length ≤ 9 * l.length
 | [], _ => Nat.le_refl _
 | x :: l, h => by
  have h1 := numsL_len l fun y hy => h y (List.mem_cons_of_mem _ hy)
  have h2 := h x (List.mem_cons_self ..)
  have h3 := put_le9 (n := x.toNat) (by omega)
  rw [show numsL (x :: l) = Num.put x.toNat ++ numsL l from rfl, List.length_append, List.length_cons]
  omega
def okI (x : Int) : Prop := 0 ≤ x ∧ x < 9223372036854775808
def hdrL (n : Nd) : List UInt8 := numsL ([n.op, (n.ins.length : Int)]) ++ (numsL n.ins ++ numsL [n.kind, n.fa, n.a])
def ndsL : Nat → List Nd → List UInt8
 | 0, l => Num.put l.length
 | d + 1, l => Num.put l.length ++ l.flatMap fun n => hdrL n ++ ndsL d n.body
def grL (g : G) : List UInt8 := ndsL 2 g.1 ++ Num.put g.2.toNat
def PutN : Nat → List Nd → Prop
 | 0, l => l = []
 | d + 1, l => l.length ≤ 100 ∧ ∀ n ∈ l, (okI n.op ∧ okI n.kind ∧ okI n.fa ∧ okI n.a ∧ n.ins.length ≤ 100 ∧ ∀ x ∈ n.ins, okI x) ∧ PutN d n.body
theorem PutN.len {d : Nat} {l : List Nd} (h : PutN d l) : l.length ≤ 100 := by
 cases d with
 | zero => cases h; simp
 | succ d => exact h.1
theorem ndsL_s (d : Nat) (l : List Nd) {k : Nat} (h : k < l.length) : (l.take (k + 1)).flatMap (fun n => hdrL n ++ ndsL d n.body) = (l.take k).flatMap (fun n => hdrL n ++ ndsL d n.body) ++ (hdrL l[k] ++ ndsL d l[k].body) := by
 rw [List.take_succ_eq_append_getElem h, List.flatMap_append]; simp
def capL : Nat → Nat
 | 0 => 9
 | d + 1 => 9 + 100 * (1000 + capL d)
theorem hdrL_len {n : Nd} (h1 : okI n.op) (h2 : okI n.kind) (h3 : okI n.fa) (h4 : okI n.a) (h5 : n.ins.length ≤ 100) (h6 : ∀ x ∈ n.ins, okI x) : (hdrL n).length ≤ 1000 := by
 have a1 := numsL_len [n.op, (n.ins.length : Int)] (by intro x hx; simp at hx; rcases hx with rfl | rfl; exact h1; omega)
 have a2 := numsL_len n.ins h6
 have a3 := numsL_len [n.kind, n.fa, n.a] (by intro x hx; simp at hx; rcases hx with rfl | rfl | rfl; exact h2; exact h3; exact h4)
 unfold hdrL
 rw [List.length_append, List.length_append]
 simp only [List.length_cons, List.length_nil] at a1 a3
 omega
theorem flat_le {α : Type} (f : α → List UInt8) (c : Nat) : ∀ (l : List α), (∀ x ∈ l, (f x).length ≤ c) → (l.flatMap f).length ≤ l.length * c
 | [], _ => by simp
 | x :: l, h => by
  have h1 := flat_le f c l fun y hy => h y (List.mem_cons_of_mem _ hy)
  have h2 := h x (List.mem_cons_self ..)
  rw [List.flatMap_cons, List.length_append, List.length_cons, Nat.add_mul]
  omega
theorem ndsL_len : ∀ {d : Nat} {l : List Nd}, PutN d l → (ndsL d l).length ≤ capL d
 | 0, l, h => put_le9 (by have := h.len; omega)
 | d + 1, l, h => by
  have h0 := put_le9 (n := l.length) (by have := h.len; omega)
  have h1 := flat_le (fun n => hdrL n ++ ndsL d n.body) (1000 + capL d) l (fun n hn => by
   obtain ⟨⟨q1, q2, q3, q4, q5, q6⟩, q7⟩ := h.2 n hn
   have a := hdrL_len q1 q2 q3 q4 q5 q6
   have b := ndsL_len q7
   rw [List.length_append]; omega)
  have h2 := h.1
  have h3 : l.length * (1000 + capL d) ≤ 100 * (1000 + capL d) := Nat.mul_le_mul_right _ h2
  unfold ndsL capL
  rw [List.length_append]
  omega
theorem capL_le {d : Nat} (h : d ≤ 2) : capL d ≤ 20000000 := by
 match d, h with
 | 0, _ => decide
 | 1, _ => decide
 | 2, _ => decide
end Go.Ox.Gr
namespace Go.Ox.Gr
open Go.Ox.Num (St numP failP)
structure PS where
 s : St
 gb : Bool
def rdS (s : St) : Nat → St
 | 0 => s
 | j + 1 => (numP (rdS s j)).1
def rdL (s : St) : Nat → List Int
 | 0 => []
 | j + 1 => rdL s j ++ [((numP (rdS s j)).2 : Int)]
theorem rdL_len (s : St) : ∀ j, (rdL s j).length = j
 | 0 => rfl
 | j + 1 => by rw [rdL, List.length_append, rdL_len s j]; rfl
theorem rdS_len (s : St) : ∀ j, (rdS s j).l.length ≤ s.l.length
 | 0 => Nat.le_refl _
 | j + 1 => Nat.le_trans (Num.numP_len _) (rdS_len s j)
def cntP (most : Int) (S : PS) : PS × Nat :=
 if most < ((numP S.s).2 : Int) ∨ (numP S.s).1.bad = true then (⟨(numP S.s).1, true⟩, 0) else (⟨(numP S.s).1, S.gb⟩, (numP S.s).2)
def nodeW (body : PS → PS × List Nd) (S : PS) : PS × Nd :=
 let s1 := (numP S.s).1
 let c := cntP 2 ⟨s1, S.gb⟩
 let s2 := rdS c.1.s c.2
 let s3 := (numP s2).1
 let s4 := (numP s3).1
 let s5 := (numP s4).1
 let b := body ⟨s5, c.1.gb⟩
 (b.1, .mk ((numP S.s).2 : Nat) (rdL c.1.s c.2) ((numP s2).2 : Nat) ((numP s3).2 : Nat) ((numP s4).2 : Nat) b.2)
def itr (f : PS → PS × Nd) : Nat → PS → PS × List Nd
 | 0, S => (S, [])
 | n + 1, S => if S.gb = true ∨ S.s.bad = true then (S, []) else ((itr f n (f S).1).1, (f S).2 :: (itr f n (f S).1).2)
def mostP : Nat → Int
 | 0 => 0
 | _ + 1 => 32
def nodesP : Nat → PS → PS × List Nd
 | 0, S => ((cntP 0 S).1, [])
 | d + 1, S => itr (nodeW (nodesP d)) (cntP 32 S).2 (cntP 32 S).1
def getP (b : List UInt8) : G × Bool :=
 let r := nodesP 2 ⟨⟨b, false⟩, false⟩
 let g : G := (r.2, ((numP r.1.s).2 : Int))
 (g, !r.1.gb && (!(numP r.1.s).1.bad && ((numP r.1.s).1.l.isEmpty && gOk g)))
theorem cntP_len (m : Int) (S : PS) : (cntP m S).1.s.l.length ≤ S.s.l.length := by
 unfold cntP
 split <;> exact Num.numP_len _
theorem cntP_le (m : Int) (S : PS) (h : 0 ≤ m) : ((cntP m S).2 : Int) ≤ m := by
 unfold cntP
 split
 · exact h
 · omega
theorem nodeW_len {body : PS → PS × List Nd} (h : ∀ S, (body S).1.s.l.length ≤ S.s.l.length) (S : PS) : (nodeW body S).1.s.l.length ≤ S.s.l.length := by
 unfold nodeW
 refine Nat.le_trans (h _) ?_
 refine Nat.le_trans (Num.numP_len _) (Nat.le_trans (Num.numP_len _) (Nat.le_trans (Num.numP_len _) (Nat.le_trans (rdS_len _ _) (Nat.le_trans (cntP_len _ _) (Num.numP_len _)))))
theorem itr_len {f : PS → PS × Nd} (h : ∀ S, (f S).1.s.l.length ≤ S.s.l.length) : ∀ (n : Nat) (S : PS), (itr f n S).1.s.l.length ≤ S.s.l.length
 | 0, S => Nat.le_refl _
 | n + 1, S => by
  unfold itr
  split
  · exact Nat.le_refl _
  · exact Nat.le_trans (itr_len h n _) (h S)
theorem nodesP_len : ∀ (d : Nat) (S : PS), (nodesP d S).1.s.l.length ≤ S.s.l.length
 | 0, S => cntP_len _ _
 | d + 1, S => Nat.le_trans (itr_len (nodeW_len (nodesP_len d)) _ _) (cntP_len _ _)
theorem itr_stop {f : PS → PS × Nd} {S : PS} (h : S.gb = true ∨ S.s.bad = true) (n : Nat) : itr f n S = (S, []) := by
 cases n with
 | zero => rfl
 | succ n => unfold itr; rw [if_pos h]
theorem itr_go {f : PS → PS × Nd} {S : PS} (h : ¬ (S.gb = true ∨ S.s.bad = true)) (n : Nat) : itr f (n + 1) S = ((itr f n (f S).1).1, (f S).2 :: (itr f n (f S).1).2) := by
 rw [itr, if_neg h]
def cntR (most : Int) (s : St) : St × Nat := (⟨(numP s).1.l, (numP s).1.bad || decide (most < ((numP s).2 : Int))⟩, (numP s).2)
def numsR : Nat → St → St × List Int
 | 0, s => (s, [])
 | n + 1, s => if s.bad = true then (s, []) else ((numsR n (numP s).1).1, ((numP s).2 : Int) :: (numsR n (numP s).1).2)
def itrR (f : St → St × Nd) : Nat → St → St × List Nd
 | 0, s => (s, [])
 | n + 1, s => if s.bad = true then (s, []) else ((itrR f n (f s).1).1, (f s).2 :: (itrR f n (f s).1).2)
def nodeR : Nat → St → St × Nd
 | d, s =>
  let s1 := (numP s).1
  let c := cntR 2 s1
  let i := numsR c.2 c.1
  let s3 := (numP i.1).1
  let s4 := (numP s3).1
  let s5 := (numP s4).1
  let b := cntR (mostP d) s5
  match d with
  | 0 => (b.1, .mk ((numP s).2 : Nat) i.2 ((numP i.1).2 : Nat) ((numP s3).2 : Nat) ((numP s4).2 : Nat) [])
  | d + 1 => ((itrR (nodeR d) b.2 b.1).1, .mk ((numP s).2 : Nat) i.2 ((numP i.1).2 : Nat) ((numP s3).2 : Nat) ((numP s4).2 : Nat) (itrR (nodeR d) b.2 b.1).2)
theorem numsR_stop {s : St} (h : s.bad = true) (n : Nat) : numsR n s = (s, []) := by
 cases n with
 | zero => rfl
 | succ n => unfold numsR; rw [if_pos h]
theorem itrR_stop {f : St → St × Nd} {s : St} (h : s.bad = true) (n : Nat) : itrR f n s = (s, []) := by
 cases n with
 | zero => rfl
 | succ n => unfold itrR; rw [if_pos h]
def getR (b : List UInt8) : G × Bool :=
 let s1 := (numP ⟨b, false⟩).1
 let n := (numP ⟨b, false⟩).2
 let r := itrR (nodeR 1) n s1
 let g : G := (r.2, ((numP r.1).2 : Int))
 if 32 < n then (([], 0), false) else (g, !(numP r.1).1.bad && ((numP r.1).1.l.isEmpty && gOk g))
end Go.Ox.Gr
namespace Go.Proofs.YtpmpjjhchkoboaaGreatDoor
open Go.RowKit Go.Ox
theorem elemB : Elem Tryz.prog 33 5 (.int .u8 0) 1 1 := Elem.mk' Tryz.underlying33 (by kernel_rfl) rfl (by omega)
theorem strB {w : World} {v : Value} {l : List UInt8} (h : RB w v l) : (convert 33 9 v).run Tryz.prog w = .ok (.string ⟨l.toArray⟩) w :=
 run_str Tryz.underlying33 Tryz.underlying5 Tryz.underlying9 h
theorem madeB (n : Nat) : (madeCells (Value.int .u8 0).cells (n * 1)).toList = (List.replicate n (0 : UInt8)).map byteV := by
 rw [Nat.mul_one, show (Value.int .u8 0).cells = #[Value.int .u8 0] from rfl, toList_madeCells_one, List.map_replicate]
 congr 1
 unfold byteV n8; rfl
theorem str_eq (a b : List UInt8) : ((⟨a.toArray⟩ : ByteArray) == ⟨b.toArray⟩) = (a == b) := by
 show (a.toArray == b.toArray) = (a == b)
 simp
theorem own_empty (w : World) : (w.alloc (.cells #[] 5)).ownsRow w.heap.size 5 1 (.slice (some ⟨w.heap.size, 0, none⟩) 0 0) 0 [] :=
 World.ownsRow_lit w #[] 0 (Nat.le_refl _) (by unfold maxLen; omega) rfl
theorem eqlNilB (w : World) (A : Option Addr) (n c n' c' : Nat) : (binOp .eql 33 (.slice A n c) (.slice none n' c')).run Tryz.prog w = .ok (.bool A.isNone) w :=
 Lib.run_eql_slice_nil (P := Tryz.prog) w 33 5 A n c n' c' Tryz.underlying33
theorem clone_any (v : Value) (l : List UInt8) (w : World) (hb : RB w v l) (hl : l.length ≤ 1099511627776) :
 Calls Tryz.prog 95 #[v] w fun e w' => ∃ v', e = .returned v' ∧ OB 5 w.heap.size w' v' l ∧ Ext w w' := by
 have HB := hid hb
 obtain ⟨A, c, rfl, hrd⟩ := hb
 have he := eqlNilB
 cases A with
 | none =>
  have hn : l.length = 0 := by have := hrd.nil rfl; have := hrd.nc; omega
  have := List.eq_nil_of_length_eq_zero hn
  subst this
  have h0 := hrd.nil rfl
  subst h0
  clear hrd hn
  go_enter Tryz.func95, Tryz.ntmps95
  go_wp2
  go_ret
  exact ⟨_, rfl, World.ownsRow_nil _ _ _ _, Ext.refl _⟩
 | some ad =>
  clear hrd
  have hown : (w.alloc (.cells #[] 5)).ownsRow w.heap.size 5 1 (.slice (some ⟨w.heap.size, 0, none⟩) 0 0) 0 [] :=
   World.ownsRow_lit w #[] 0 (Nat.le_refl _) (by unfold maxLen; omega) rfl
  have HO := hid hown
  clear hown
  go_enter Tryz.func95, Tryz.ntmps95
  go_wp2_with (at_builtin; refine wpList_app rfl elemB _ _ _ rfl w.heap.size _ 0 [] rfl HO.out _ l.length (l.map byteV) rfl (HB.out.ext ((Ext.refl _).alloc _)) (one_byteV l) (by omega) (by unfold maxLen; omega) (by simp) ?_; intro v' w' ha)
  go_ret
  exact ⟨_, rfl, by have := ha.own; simpa [OB] using this, ha.ext ((Ext.refl _).alloc _) rfl HO.out⟩
end Go.Proofs.YtpmpjjhchkoboaaGreatDoor
namespace Go.Proofs.YtpmpjjhchkoboaaGreatDoor
open Go.RowKit Go.Ox
theorem width_any (n : Nat) (w : World) (hn : n < 9223372036854775808) :
 Calls Tryz.prog 115 #[.int .i64 n] w fun e w' => e = .returned (.int .i64 (Num.width n : Nat)) ∧ w = w' := by
 have hw : Num.width n ≤ 8 := (Num.width_le 8 n (by omega)).2 (by omega)
 have hd := Num.width_div n
 have HD := hid hd
 clear hd
 go_enter Tryz.func115, Tryz.ntmps115
 go_wp2
 go_loop [0, 3] (fun a s => ∃ m k : Nat, a = .int .i64 m ∧ s = .int .i64 k ∧ m ≤ n ∧ 1 ≤ k ∧ Num.width n = (if m = 0 then k else k + Num.width m)) (fun a _ => (intOf a).toNat)
 case atStart => exact ⟨n / 256, 1, by go_num, rfl, by omega, Nat.le_refl _, HD.out⟩
 case round =>
  obtain ⟨m, k, rfl, rfl, hm, hk, hwm⟩ := hrel
  by_cases h0 : m = 0
  · subst h0
    rw [if_pos rfl] at hwm
    rw [hwm]
    go_wp2
    go_ret
    exact ⟨rfl, rfl⟩
  · rw [if_neg h0] at hwm
    have hp := Num.width_pos m
    have hk2 : k ≤ 8 := by omega
    have HW := hid hwm
    clear hwm hw
    have hpos : (0 : Int) < (m : Int) := by omega
    go_wp2
    refine ⟨⟨m / 256, k + 1, by go_num, by go_num, by omega, by omega, ?_⟩, by simp [intOf]; omega⟩
    rw [HW.out, Num.width_div m]
    split <;> omega
theorem shr_byte (n k : Nat) : ((n : Int) / 2 ^ (8 * k)) % 256 = n8 (UInt8.ofNat (n / 256 ^ k % 256)) := by
 rw [n8_of (by omega), show (2 : Int) ^ (8 * k) = ((256 ^ k : Nat) : Int) by rw [show 256 = 2 ^ 8 from rfl, ← Nat.pow_mul, Int.natCast_pow]; rfl]
 rw [← Int.natCast_ediv]
 omega
theorem digits_any (n s : Nat) (w : World) (_hn : n < 9223372036854775808) (hs : s ≤ 8) :
 Calls Tryz.prog 116 #[.int .i64 n, .int .i64 s] w fun e w' => ∃ v, e = .returned v ∧ OB 5 w.heap.size w' v (Num.digits n s) ∧ Ext w w' := by
 go_enter Tryz.func116, Tryz.ntmps116
 go_wp2_with (at_make; refine wpList_mk rfl elemB _ (.tmp 7) (.tmp 7) rfl s rfl rfl (by omega) (by unfold maxLen; omega) ?_; intro v3 w3 hv3 ho3 he3; subst hv3)
 have hb3 : OB 5 w.heap.size w3 (.slice (some ⟨w.heap.size, 0, none⟩) s s) (List.replicate s 0) := by
  rw [madeB] at ho3
  unfold OB
  rw [List.length_replicate]; exact ho3
 clear ho3
 have HB3 := hid hb3
 have HE3 := hid he3
 clear hb3 he3
 go_loopw [11] (fun i wr => ∃ k : Nat, k ≤ s ∧ i = .int .i64 k ∧ OB 5 w.heap.size wr (.slice (some ⟨w.heap.size, 0, none⟩) s s) ((Num.digits n s).take k ++ List.replicate (s - k) 0) ∧ Ext w wr) (fun i _ => s - (intOf i).toNat)
 case atStart => exact ⟨0, Nat.zero_le _, rfl, by simpa using HB3.out, HE3.out⟩
 case round =>
  obtain ⟨k, hk, rfl, hown, hext⟩ := hrel
  have HO := hid hown
  clear hown
  by_cases hlt : k < s
  · have hdl := Num.digits_len s n
    obtain ⟨hc3, hf3, _⟩ := HO.out.at_ (j := k) (by simp; omega)
    have ht := Num.digits_set n s hlt _ rfl
    have HT := hid ht
    clear ht
    generalize ((Num.digits n s).take k ++ List.replicate (s - k) 0)[k]'(by simp; omega) = old at *
    have hsb := shr_byte n (s - 1 - k)
    generalize UInt8.ofNat (n / 256 ^ (s - 1 - k) % 256) = x at *
    have g1 : (k : Int) < (s : Int) := by omega
    have g0 : 0 ≤ (k : Int) := by omega
    generalize wr.heap.size = hsz
    go_wp2
    refine ⟨⟨k + 1, by omega, by go_num, ?_, hext.setCell (p := ⟨w.heap.size, k, none⟩) (Nat.le_refl _) _⟩, by simp [intOf]; omega⟩
    rw [← HT.out]
    exact HO.out.stored k _
  · obtain rfl : k = s := by omega
    have hdl := Num.digits_len k n
    have ho : OB 5 w.heap.size wr (.slice (some ⟨w.heap.size, 0, none⟩) k k) (Num.digits n k) := by
     have := HO.out
     rwa [Nat.sub_self, List.replicate_zero, List.append_nil, List.take_of_length_le (by omega)] at this
    go_wp2
    go_ret
    exact ⟨_, rfl, ho, hext⟩
theorem OB.lit1 (w : World) (x : Value) (b : UInt8) (h : byteV b = x) : OB 5 w.heap.size (w.alloc (.cells #[x] 5)) (.slice (some ⟨w.heap.size, 0, none⟩) 1 1) [b] := by
 unfold OB
 rw [List.map_singleton, h]
 exact World.ownsRow_lit w _ 1 (Nat.le_refl _) (by unfold maxLen; omega) rfl
theorem OB.lit2 (w : World) (x y : Value) (b d : UInt8) (h : byteV b = x) (h2 : byteV d = y) : OB 5 w.heap.size (w.alloc (.cells #[x, y] 5)) (.slice (some ⟨w.heap.size, 0, none⟩) 2 2) [b, d] := by
 unfold OB
 rw [List.map_cons, List.map_singleton, h, h2]
 exact World.ownsRow_lit w _ 2 (Nat.le_refl _) (by unfold maxLen; omega) rfl
theorem byteV_of {n : Nat} (h : n < 256) : byteV (UInt8.ofNat n) = .int .u8 (n : Int) := by unfold byteV; rw [n8_of h]
theorem put_any (n : Nat) (w : World) (hn : n < 9223372036854775808) :
 Calls Tryz.prog 69 #[.int .i64 n] w fun e w' => ∃ v, e = .returned (.tuple #[v, .int .i64 0]) ∧ OB 5 w.heap.size w' v (Num.put n) ∧ Ext w w' := by
 have h0 : (0 : Int) ≤ (n : Int) := by omega
 by_cases h1 : n < 240
 · have g1 : (n : Int) < 240 := by omega
   go_enter Tryz.func69, Tryz.ntmps69
   go_wp2
   go_ret2
   refine ⟨_, rfl, ?_, (Ext.refl _).alloc _⟩
   rw [Num.put_1 h1]
   exact OB.lit1 w _ _ (byteV_of (by omega))
 have HN := hid hn
 clear hn
 by_cases h2 : n < 2288
 · obtain ⟨m, rfl⟩ : ∃ m, n = m + 240 := ⟨n - 240, by omega⟩
   have g1 : ¬ ((m + 240 : Nat) : Int) < 240 := by omega
   have g2 : ((m + 240 : Nat) : Int) < 2288 := by omega
   have g3 : ((m + 240 : Nat) : Int) - 240 = (m : Int) := by omega
   have g4 : m < 2048 := by omega
   have HP := hid (Num.put_2 h1 h2)
   rw [Nat.add_sub_cancel] at HP
   clear h1 h2
   generalize ((m + 240 : Nat) : Int) = z at *
   go_enter Tryz.func69, Tryz.ntmps69
   go_wp2
   go_ret2
   refine ⟨_, rfl, ?_, (Ext.refl _).alloc _⟩
   rw [HP.out]
   refine OB.lit2 w _ _ _ _ ?_ ?_
   · rw [byteV_of (by omega)]; congr 1
   · rw [byteV_of (by omega)]; congr 1
 · have g1 : ¬ (n : Int) < 240 := by omega
   have g2 : ¬ (n : Int) < 2288 := by omega
   have hn := HN.out
   have hwd : Num.width n ≤ 8 := (Num.width_le 8 n (by omega)).2 (by omega)
   have hW := hid (width_any n w hn)
   have hdl := Num.digits_len (Num.width n) n
   have hp := Num.put_3 h1 h2
   generalize hk : Num.width n = k at *
   have HK := hid hk
   have HP := hid hp
   clear hk hp h1 h2
   have hbl : byteV (UInt8.ofNat (246 + k)) = .int .u8 (246 + (k : Int)) := by rw [byteV_of (by omega)]; congr 1
   go_enter Tryz.func69, Tryz.ntmps69
   go_wp2_with (first
    | (go_at_call 115; refine hW.out.mono ?_; rintro e w' ⟨rfl, rfl⟩)
    | (go_at_call 116; refine (digits_any n k _ hn hwd).mono ?_; rintro e w1 ⟨v1, rfl, ho1, he1⟩; have HO1 := hid (RB.rd ho1.rb); have HL1 := hid ((OB.lit1 w _ _ hbl).ext he1).own; rw [hdl] at HO1; clear ho1)
    | (at_builtin; refine wpList_app rfl elemB _ _ _ rfl w.heap.size _ 1 _ rfl HL1.out _ k _ rfl HO1.out (one_byteV _) (by omega) (by unfold maxLen; omega) (((Ext.refl w).alloc _).trans he1).size ?_; intro v2 w2 ha))
   go_ret2
   refine ⟨_, rfl, ?_, ha.ext (((Ext.refl w).alloc _).trans he1) rfl HL1.out⟩
   rw [HP.out]
   exact OB.app (l := [UInt8.ofNat (246 + k)]) (by rw [hdl]; exact ha.own)
theorem size_any (n : Nat) (w : World) (hn : n < 9223372036854775808) :
 Calls Tryz.prog 98 #[.int .i64 n] w fun e w' => e = .returned (.int .i64 ((Num.put n).length : Nat)) ∧ w = w' := by
 have h0 : (0 : Int) ≤ (n : Int) := by omega
 have hl := Num.put_len n
 by_cases h1 : n < 240
 · have g1 : (n : Int) < 240 := by omega
   rw [if_pos h1] at hl
   rw [hl]
   clear hl
   go_enter Tryz.func98, Tryz.ntmps98
   go_wp2
   go_ret
   exact ⟨rfl, rfl⟩
 by_cases h2 : n < 2288
 · have g1 : ¬ (n : Int) < 240 := by omega
   have g2 : (n : Int) < 2288 := by omega
   rw [if_neg h1, if_pos h2] at hl
   rw [hl]
   clear hl h1 h2 hn
   generalize (n : Int) = z at *
   go_enter Tryz.func98, Tryz.ntmps98
   go_wp2
   go_ret
   exact ⟨rfl, rfl⟩
 · have g1 : ¬ (n : Int) < 240 := by omega
   have g2 : ¬ (n : Int) < 2288 := by omega
   have hwd : Num.width n ≤ 8 := (Num.width_le 8 n (by omega)).2 (by omega)
   have hW := hid (width_any n w hn)
   rw [if_neg h1, if_neg h2] at hl
   rw [hl]
   clear hl h1 h2 hn
   generalize Num.width n = k at *
   go_enter Tryz.func98, Tryz.ntmps98
   go_wp2_with (go_at_call 115; refine hW.out.mono ?_; rintro e w' ⟨rfl, rfl⟩)
   go_ret
   exact ⟨by congr 2, rfl⟩
theorem nat_eq0 (m : Nat) : ((m : Int) == 0) = (m == 0) := by
 cases m <;> rfl
theorem rfix_any (n s : Nat) (w : World) (hn : n < 9223372036854775808) (h0 : 1 ≤ s) (hs : s ≤ 8) :
 Calls Tryz.prog 135 #[.int .i64 n, .int .i64 s] w fun e w' => ∃ v, e = .returned (.tuple #[v, .bool (n / 256 ^ s == 0)]) ∧ OB 5 w.heap.size w' v (Num.digits n s) ∧ Ext w w' := by
 have c1 : ¬ (n : Int) < 0 := by omega
 have c2 : ¬ (s : Int) < 1 := by omega
 have c3 : ¬ (8 : Int) < (s : Int) := by omega
 go_enter Tryz.func135, Tryz.ntmps135
 go_wp2_with (at_make; refine wpList_mk rfl elemB _ (.tmp 18) (.tmp 18) rfl s rfl rfl (by omega) (by unfold maxLen; omega) ?_; intro v3 w3 hv3 ho3 he3; subst hv3)
 have hb3 : OB 5 w.heap.size w3 (.slice (some ⟨w.heap.size, 0, none⟩) s s) (List.replicate s 0) := by
  rw [madeB] at ho3
  unfold OB
  rw [List.length_replicate]; exact ho3
 clear ho3
 have HB3 := hid hb3
 have HE3 := hid he3
 clear hb3 he3
 go_loopw [0, 7] (fun a i wr => ∃ j m : Nat, j ≤ s ∧ i = .int .i64 (j - 1) ∧ a = .int .i64 m ∧ m = n / 256 ^ (s - j) ∧ OB 5 w.heap.size wr (.slice (some ⟨w.heap.size, 0, none⟩) s s) (List.replicate j 0 ++ (Num.digits n s).drop j) ∧ Ext w wr) (fun _ i _ => (intOf i + 1).toNat)
 case atStart => exact ⟨s, n, Nat.le_refl _, rfl, rfl, by simp, by rw [List.drop_of_length_le (by rw [Num.digits_len]; omega), List.append_nil]; exact HB3.out, HE3.out⟩
 case round =>
  obtain ⟨j, m, hj, rfl, rfl, hm, hown, hext⟩ := hrel
  have HO := hid hown
  clear hown
  by_cases hlt : 0 < j
  · have hdl := Num.digits_len s n
    obtain ⟨i, rfl⟩ : ∃ i, j = i + 1 := ⟨j - 1, by omega⟩
    obtain ⟨hc3, hf3, _⟩ := HO.out.at_ (j := i) (by simp; omega)
    have ht := Num.digits_setD n s hlt hj _ rfl
    rw [← hm] at ht
    have hmd : m / 256 = n / 256 ^ (s - i) := by rw [hm, Nat.div_div_eq_div_mul, ← Nat.pow_succ, show (s - (i + 1)).succ = s - i by omega]
    have HM := hid hmd
    have hml : m ≤ n := by rw [hm]; exact Nat.div_le_self _ _
    clear hm hmd
    have HT := hid ht
    clear ht
    generalize (List.replicate (i + 1) 0 ++ (Num.digits n s).drop (i + 1))[i]'(by simp; omega) = old at *
    have hx : n8 (UInt8.ofNat (m % 256)) = ((m % 256 : Nat) : Int) := n8_of (by omega)
    generalize UInt8.ofNat (m % 256) = x at *
    have e1 : ((i + 1 : Nat) : Int) - 1 = (i : Int) := by omega
    rw [e1]
    have g1 : (i : Int) < (s : Int) := by omega
    have g0 : 0 ≤ (i : Int) := by omega
    generalize wr.heap.size = hsz
    go_wp2
    refine ⟨⟨i, m / 256, by omega, rfl, by go_num, HM.out, ?_, hext.setCell (p := ⟨w.heap.size, i, none⟩) (Nat.le_refl _) _⟩, by simp [intOf]⟩
    rw [Nat.add_sub_cancel] at HT
    rw [← HT.out]
    have hst := HO.out.stored i x
    unfold byteV at hst
    rw [hx, show ((m % 256 : Nat) : Int) = (m : Int) % 256 by omega] at hst
    exact hst
  · obtain rfl : j = 0 := by omega
    rw [Nat.sub_zero] at hm
    have ho := HO.out
    rw [List.replicate_zero, List.drop_zero, List.nil_append] at ho
    have HM := hid hm
    clear hm
    go_wp2
    go_ret2
    exact ⟨_, by rw [← HM.out, nat_eq0]; rfl, ho, hext⟩
theorem rput_any (n : Nat) (w : World) (hn : n < 9223372036854775808) :
 Calls Tryz.prog 106 #[.int .i64 n] w fun e w' => ∃ v, e = .returned v ∧ OB 5 w.heap.size w' v (Num.put n) ∧ Ext w w' := by
 have h0 : (0 : Int) ≤ (n : Int) := by omega
 by_cases h1 : n < 240
 · have g1 : (n : Int) < 240 := by omega
   go_enter Tryz.func106, Tryz.ntmps106
   go_wp2
   go_ret
   refine ⟨_, rfl, ?_, (Ext.refl _).alloc _⟩
   rw [Num.put_1 h1]
   exact OB.lit1 w _ _ (byteV_of (by omega))
 have HN := hid hn
 clear hn
 by_cases h2 : n < 2288
 · obtain ⟨m, rfl⟩ : ∃ m, n = m + 240 := ⟨n - 240, by omega⟩
   have g1 : ¬ ((m + 240 : Nat) : Int) < 240 := by omega
   have g2 : ((m + 240 : Nat) : Int) < 2288 := by omega
   have g3 : ((m + 240 : Nat) : Int) - 240 = (m : Int) := by omega
   have g4 : m < 2048 := by omega
   have HP := hid (Num.put_2 h1 h2)
   rw [Nat.add_sub_cancel] at HP
   clear h1 h2
   generalize ((m + 240 : Nat) : Int) = z at *
   go_enter Tryz.func106, Tryz.ntmps106
   go_wp2
   go_ret
   refine ⟨_, rfl, ?_, (Ext.refl _).alloc _⟩
   rw [HP.out]
   refine OB.lit2 w _ _ _ _ ?_ ?_
   · rw [byteV_of (by omega)]; congr 1
   · rw [byteV_of (by omega)]; congr 1
 · have g1 : ¬ (n : Int) < 240 := by omega
   have g2 : ¬ (n : Int) < 2288 := by omega
   have hn := HN.out
   have hwd : Num.width n ≤ 8 := (Num.width_le 8 n (by omega)).2 (by omega)
   have hw2 : ¬ Num.width n ≤ 1 := fun h => by have := (Num.width_le 1 n (by omega)).1 h; omega
   have hp := Num.put_3 h1 h2
   have HWE := hid (fun (j : Nat) (h : 1 ≤ j) => Num.width_eq (n := n) h)
   generalize hk : Num.width n = k at *
   have HK := hid hk
   have HP := hid hp
   clear hk hp h1 h2
   go_enter Tryz.func106, Tryz.ntmps106
   go_wp2
   go_loopw [3] (fun i wr => ∃ j : Nat, 2 ≤ j ∧ j ≤ k ∧ i = .int .i64 j ∧ Ext w wr) (fun i _ => 8 - (intOf i).toNat)
   case atStart => exact ⟨2, by omega, by omega, rfl, Ext.refl _⟩
   case round =>
    obtain ⟨j, hj2, hjk, rfl, hext⟩ := hrel
    by_cases h8 : j < 8
    · have g8 : (j : Int) < 8 := by omega
      have hF := hid (fun w => rfix_any n j w hn (by omega) (by omega))
      have hdl := Num.digits_len j n
      by_cases hjk2 : k = j
      · subst hjk2
        have hq : (n / 256 ^ k == 0) = true := by rw [HWE.out k (by omega)]; simp
        rw [hq] at hF
        clear hq
        have hbl : byteV (UInt8.ofNat (246 + k)) = .int .u8 (246 + (k : Int)) := by rw [byteV_of (by omega)]; congr 1
        go_wp2_with (first
         | (go_at_call 135; refine (hF.out _).mono ?_; rintro e w1 ⟨v1, rfl, ho1, he1⟩; have HO1 := hid ((ho1.ext ((Ext.refl _).alloc (.cells #[.int .u8 (246 + (k : Int))] 5))).rb.rd); have HL1 := hid ((OB.lit1 w1 _ _ hbl).low he1.size).own; rw [hdl] at HO1; clear ho1)
         | (at_builtin; refine wpList_app rfl elemB _ _ _ rfl wr.heap.size _ 1 _ rfl HL1.out _ k _ rfl HO1.out (one_byteV _) (by omega) (by unfold maxLen; omega) ((he1.alloc _).size) ?_; intro v2 w2 ha))
        go_ret
        refine ⟨_, rfl, ?_, hext.trans (ha.ext (he1.alloc _) rfl ((OB.lit1 w1 _ _ hbl).low he1.size).own)⟩
        rw [HP.out]
        exact (OB.app (l := [UInt8.ofNat (246 + k)]) (by rw [hdl]; exact ha.own)).low hext.size
      · have hq : (n / 256 ^ j == 0) = false := by rw [HWE.out j (by omega)]; simp; omega
        rw [hq] at hF
        clear hq
        go_wp2_with (go_at_call 135; refine (hF.out _).mono ?_; rintro e w1 ⟨v1, rfl, ho1, he1⟩)
        go_roundw
        case rel => exact ⟨j + 1, by omega, by omega, by go_num, hext.trans he1⟩
        case measure => simp [intOf]; omega
    · obtain rfl : j = 8 := by omega
      obtain rfl : k = 8 := by omega
      have hF := hid (fun w => rfix_any n 8 w hn (by omega) (by omega))
      have hdl := Num.digits_len 8 n
      have hq : (n / 256 ^ 8 == 0) = true := by rw [HWE.out 8 (by omega)]; simp
      rw [hq] at hF
      clear hq
      have hbl : byteV (UInt8.ofNat (246 + 8)) = .int .u8 254 := byteV_of (by omega)
      go_wp2_with (first
       | (go_at_call 135; refine (hF.out _).mono ?_; rintro e w1 ⟨v1, rfl, ho1, he1⟩; have HO1 := hid ((ho1.ext ((Ext.refl _).alloc (.cells #[.int .u8 254] 5))).rb.rd); have HL1 := hid ((OB.lit1 w1 _ _ hbl).low he1.size).own; rw [hdl] at HO1; clear ho1)
       | (at_builtin; refine wpList_app rfl elemB _ _ _ rfl wr.heap.size _ 1 _ rfl HL1.out _ 8 _ rfl HO1.out (one_byteV _) (by omega) (by unfold maxLen; omega) ((he1.alloc _).size) ?_; intro v2 w2 ha))
      go_ret
      refine ⟨_, rfl, ?_, hext.trans (ha.ext (he1.alloc _) rfl ((OB.lit1 w1 _ _ hbl).low he1.size).own)⟩
      rw [HP.out]
      exact (OB.app (l := [UInt8.ofNat (246 + 8)]) (by rw [hdl]; exact ha.own)).low hext.size
end Go.Proofs.YtpmpjjhchkoboaaGreatDoor
namespace Go.Proofs.YtpmpjjhchkoboaaGreatDoor
open Go.RowKit Go.Ox
theorem strCells_bytes (s : ByteArray) : Lib.strCells s = s.data.toList.map byteV := by
 unfold Lib.strCells byteV n8; rfl
theorem wpList_appS {ops : Array Oper} {rest : List Oper} {o : Oper} {a : Act} {Q : Exit → Act → World → Prop} (hgd : o.guard = none) (w : World) (sl x : Operand)
 (ho : o.op = .call { callee := .builtin .append, args := #[sl, x], argTypes := #[33, 9] })
 (base : Nat) (v : Value) (l : List UInt8) (hs : a.eval sl = v) (hown : OB 5 base w v l) (s : ByteArray) (hx : a.eval x = .string s)
 (hb : l.length + s.size ≤ 1000000) (hbase : base ≤ w.heap.size)
 (h : ∀ v' w', OB 5 base w' v' (l ++ s.data.toList) → w.grownBy w' v.ownBlock → wpList Tryz.prog ops Q rest (a.put o.dst v') w') : wpList Tryz.prog ops Q (o :: rest) a w := by
 obtain ⟨i, hi, hz, hsz, hby⟩ := elemB.info
 refine Go.Lib.wpList_append_own_string w hgd sl x 33 9 ho base 5 i Tryz.underlying33 Tryz.underlying9 hi hz hsz hby v _ _ hs hown.own s hx (by unfold maxLen; omega) (by omega) hbase fun v' w' h2 h3 _ => h v' w' ?_ h3
 rw [strCells_bytes] at h2
 exact OB.app (by simpa using h2)
end Go.Proofs.YtpmpjjhchkoboaaGreatDoor
