/-
  GrGetLaw, GrDeep, GrLawMath, GrAll, packed: what the claim needs of them.
-/
import Derived.Test.YtdkejfjcchlnpaaGreatFt23
import Derived.Test.YtdkejfjcchlnpaaGreatFt19
import Derived.Test.YtdkejfjcchlnpaaGreatFt21
set_option maxHeartbeats 40000000
open Go.Lib (hid)
set_option linter.unusedSimpArgs false
set_option linter.unusedVariables false
set_option maxRecDepth 100000
namespace Go.Ox.Gr
open Go.Ox.Num (St a0C a2W)
attribute [local irreducible] Num.a0C
theorem a5w (s : St) : ∀ j, rdS s (j + 1) = rdS (a0C s).1 j
 | 0 => rfl
 | j + 1 => by rw [rdS, a5w s j]; rfl
theorem a84 (s : St) : ∀ j, rdL s (j + 1) = ((a0C s).2 : Int) :: rdL (a0C s).1 j
 | 0 => rfl
 | j + 1 => by rw [rdL, a84 s j, a5w s j]; rfl
def Fit : Nat -> List Nd -> Prop
 | 0, l => l = []
 | d + 1, l => l.length <= 32 ∧ ∀ n ∈ l, (okI n.op ∧ okI n.kind ∧ okI n.fa ∧ okI n.a ∧ n.ins.length <= 2 ∧ ∀ x ∈ n.ins, okI x) ∧ Fit d n.body
theorem Fit.put : ∀ {d : Nat} {l : List Nd}, Fit d l -> b5s d l
 | 0, _, h => h
 | d + 1, l, h => ⟨by have := h.1; omega, fun n hn => ⟨by obtain ⟨a, b, c, e, f, g⟩ := (h.2 n hn).1; exact ⟨a, b, c, e, by omega, g⟩, Fit.put (h.2 n hn).2⟩⟩
theorem b2j : ∀ (l : List Int) (r : List UInt8), (∀ x ∈ l, okI x) -> rdS ⟨a0B l ++ r, false⟩ l.length = ⟨r, false⟩ ∧ rdL ⟨a0B l ++ r, false⟩ l.length = l
 | [], r, _ => ⟨rfl, rfl⟩
 | x :: l, r, h => by
  have hx := h x List.mem_cons_self;unfold okI at hx
  have h1 : a0C ⟨a0B (x :: l) ++ r, false⟩ = (⟨a0B l ++ r, false⟩, x.toNat) := by
   have : a0B (x :: l) ++ r = Num.put x.toNat ++ (a0B l ++ r) := by simp [a0B]
   rw [this, Num.a2z (by omega)]
  obtain ⟨i1, i2⟩ := b2j l r fun y hy => h y (List.mem_cons_of_mem _ hy)
  rw [List.length_cons, a5w, a84, h1];dsimp only;rw [i1, i2];exact ⟨rfl, by rw [Int.toNat_of_nonneg hx.1]⟩
theorem a8S {n : Nat} {m : Int} (hn : n < 9223372036854775808) (hm : (n : Int) <= m) (r : List UInt8) : a2K m ⟨⟨Num.put n ++ r, false⟩, false⟩ = (⟨⟨r, false⟩, false⟩, n) := by
 unfold a2K;dsimp only;rw [Num.a2z hn, if_neg (by simp; omega)]
theorem b6t (x y : Int) : a0B [x, y] = Num.put x.toNat ++ Num.put y.toNat := by simp [a0B]
theorem b6u (x y z : Int) : a0B [x, y, z] = Num.put x.toNat ++ (Num.put y.toNat ++ Num.put z.toNat) := by simp [a0B]
theorem b4u {body : PS -> PS × List Nd} {n : Nd} {bb : List UInt8} (h : okI n.op ∧ okI n.kind ∧ okI n.fa ∧ okI n.a ∧ n.ins.length <= 2 ∧ ∀ x ∈ n.ins, okI x) (r : List UInt8)
 (hb : body ⟨⟨bb ++ r, false⟩, false⟩ = (⟨⟨r, false⟩, false⟩, n.body)) : a1I body ⟨⟨(a5T n ++ bb) ++ r, false⟩, false⟩ = (⟨⟨r, false⟩, false⟩, n) := by
 obtain ⟨op, ins, kind, fa, a, bo⟩ := n;obtain ⟨h1, h2, h3, h4, h5, h6⟩ := h;dsimp only [Nd.op, Nd.ins, Nd.kind, Nd.fa, Nd.a, Nd.body] at *;unfold okI at h1 h2 h3 h4
 have e0 : (a5T (.mk op ins kind fa a bo) ++ bb) ++ r = Num.put op.toNat ++ (Num.put ins.length ++ (a0B ins ++ (Num.put kind.toNat ++ (Num.put fa.toNat ++ (Num.put a.toNat ++ (bb ++ r)))))) := by
  unfold a5T;dsimp only [Nd.op, Nd.ins, Nd.kind, Nd.fa, Nd.a];rw [b6t, b6u, Int.toNat_natCast];simp only [List.append_assoc]
 rw [e0];unfold a1I;dsimp only;rw [Num.a2z (by omega)]
 dsimp only;rw [a8S (by omega) (by omega)]
 dsimp only;rw [(b2j ins _ h6).1, (b2j ins _ h6).2];rw [Num.a2z (by omega)]
 dsimp only;rw [Num.a2z (by omega)]
 dsimp only;rw [Num.a2z (by omega)]
 dsimp only;rw [hb];dsimp only;rw [Int.toNat_of_nonneg h1.1, Int.toNat_of_nonneg h2.1, Int.toNat_of_nonneg h3.1, Int.toNat_of_nonneg h4.1]
theorem b2k {f : PS -> PS × Nd} (g : Nd -> List UInt8) : ∀ (l : List Nd) (r : List UInt8), (∀ n ∈ l, ∀ r, f ⟨⟨g n ++ r, false⟩, false⟩ = (⟨⟨r, false⟩, false⟩, n)) ->
 itr f l.length ⟨⟨l.flatMap g ++ r, false⟩, false⟩ = (⟨⟨r, false⟩, false⟩, l)
 | [], r, _ => rfl
 | n :: l, r, h => by
  rw [List.length_cons, b5t (by simp)]
  have e : (n :: l).flatMap g ++ r = g n ++ (l.flatMap g ++ r) := by simp
  rw [e, h n List.mem_cons_self, b2k g l r fun m hm => h m (List.mem_cons_of_mem _ hm)]
theorem a86 : ∀ (d : Nat) (l : List Nd) (r : List UInt8), Fit d l -> a0f d ⟨⟨a42 d l ++ r, false⟩, false⟩ = (⟨⟨r, false⟩, false⟩, l)
 | 0, l, r, h => by
  obtain rfl : l = [] := h
  show ((a2K 0 ⟨⟨Num.put 0 ++ r, false⟩, false⟩).1, []) = _;rw [a8S (by omega) (by omega)]
 | d + 1, l, r, h => by
  have h1 := h.1
  show itr (a1I (a0f d)) (a2K 32 ⟨⟨(Num.put l.length ++ _) ++ r, false⟩, false⟩).2 (a2K 32 ⟨⟨(Num.put l.length ++ _) ++ r, false⟩, false⟩).1 = _;rw [List.append_assoc, a8S (by omega) (by omega)]
  exact b2k _ l r fun n hn r => b4u (h.2 n hn).1 r (a86 d n.body r (h.2 n hn).2)
theorem b6v {g : G} (hf : Fit 2 g.1) (ho : okI g.2) (hok : gOk g = true) : b6k (grL g) = (g, true) := by
 obtain ⟨l, out⟩ := g;unfold okI at ho;dsimp only at *;have h1 : grL (l, out) = a42 2 l ++ (Num.put out.toNat ++ []) := by unfold grL; simp
 unfold b6k;rw [h1, a86 2 l _ hf];dsimp only;rw [Num.a2z (by omega)]
 dsimp only;rw [Int.toNat_of_nonneg ho.1, hok];rfl
end Go.Ox.Gr
namespace Go.Ox.Gr
def a2m : Nat -> List Nd -> Bool
 | 0, _ => true
 | k + 1, l => decide (40 < l.length) || l.any fun n => decide (40 < n.ins.length) || (decide (0 < n.body.length) && a2m k n.body)
def a8T (k : Nat) (n : Nd) : Bool := decide (40 < n.ins.length) || (decide (0 < n.body.length) && a2m k n.body)
def b6w (k : Nat) (l : List Nd) : Bool := l.any (a8T k)
theorem anyD_s (k : Nat) (l : List Nd) {i : Nat} (h : i < l.length) : b6w k (l.take (i + 1)) = (b6w k (l.take i) || a8T k l[i]) := by
 unfold b6w;rw [List.take_succ_eq_append_getElem h, List.any_append];simp
theorem b4v (k : Nat) (l : List Nd) {i : Nat} (h : i < l.length) (hd : a8T k l[i] = true) : b6w k l = true := List.any_eq_true.2 ⟨_, List.getElem_mem h, hd⟩
theorem b2l (k : Nat) (l : List Nd) : a2m (k + 1) l = (decide (40 < l.length) || b6w k l) := rfl
theorem a8U {k : Nat} {l : List Nd} (h : a2m (k + 1) l = false) : l.length <= 40 ∧ ∀ n ∈ l, n.ins.length <= 40 ∧ (n.body = [] ∨ a2m k n.body = false) := by
 rw [b2l, Bool.or_eq_false_iff, decide_eq_false_iff_not] at h;refine ⟨by omega, fun n hn => ?_⟩
 have h2 : a8T k n = false := by
  have := h.2;unfold b6w at this;rw [List.any_eq_false] at this;simpa using this n hn
 unfold a8T at h2;rw [Bool.or_eq_false_iff, decide_eq_false_iff_not, Bool.and_eq_false_iff, decide_eq_false_iff_not] at h2;refine ⟨by omega, h2.2.imp (fun q => ?_) id⟩
 exact List.eq_nil_of_length_eq_zero (by omega)
theorem b2m {k : Nat} {l : List Nd} (h : a2m (k + 1) l = false) {n : Nd} (hn : n ∈ l) : n.body.length <= 40 := by
 rcases ((a8U h).2 n hn).2 with q | q
 . rw [q]; simp
 cases k with
 | zero => cases q
 | succ k => exact (a8U q).1
end Go.Ox.Gr
namespace Go.Proofs.YtdkejfjcchlnpaaGreat
open Go.RowKit Go.Ox Go.Ox.Gr
attribute [local irreducible] RE a00 a2m
theorem b4w : ∀ (k : Nat) (D : Int) (d : Nat) (v : Value) (l : List Nd) (w : World), k <= 4 -> D = 4 - (k : Int) -> a00 d w v l ->
 Calls Tryz.prog 34 #[v, .int .i64 D] w fun e w' => e = .returned (.bool (a2m k l)) ∧ w = w' := by
 intro k
 induction k with
 | zero =>
  intro D d v l w _ hD hv;obtain ⟨A, c, rfl⟩ := hv.form;have g1 : (3 : Int) < D := by omega
  rw [show a2m 0 l = true by unfold a2m; rfl]
  clear hv hD
  by_cases h : 40 < l.length
  . have g2 : (40 : Int) < (l.length : Int) := by omega
    clear h
    go_enter Tryz.func34, Tryz.ntmps34
    go_wp2
    go_ret
    exact ⟨rfl, rfl⟩
  have g2 : ¬ (40 : Int) < (l.length : Int) := by omega
  clear h
  go_enter Tryz.func34, Tryz.ntmps34
  go_wp2
  go_ret
  exact ⟨rfl, rfl⟩
 | succ k ih =>
 intro D d v l w hk4 hD hv;have HV := hid hv;obtain ⟨A, c, rfl⟩ := hv.form;have g1 : ¬ (3 : Int) < D := by omega
 have hd1 : IntKind.i64.wrap (D + 1) = 4 - (k : Int) := by rw [IntWalk.i64_in _ (by omega)]; omega
 have IH := hid (fun d v l w hv => ih (4 - (k : Int)) d v l w (by omega) rfl hv)
 have HB := hid (b2l k l);generalize a2m (k + 1) l = R at *;clear hv hD ih
 by_cases h : 40 < l.length
 . have g2 : (40 : Int) < (l.length : Int) := by omega
   have HR := hid (show R = true by rw [HB.o, decide_eq_true h]; rfl)
   clear h
   go_enter Tryz.func34, Tryz.ntmps34
   go_wp2
   go_ret
   exact ⟨by rw [HR.o]; rfl, rfl⟩
 have g2 : ¬ (40 : Int) < (l.length : Int) := by omega
 have H40 := hid (show l.length <= 40 by omega)
 rw [decide_eq_false h, Bool.false_or] at HB;clear h hk4;obtain ⟨K, hK⟩ : ∃ K : Int, K = 4 - (k : Int) := ⟨_, rfl⟩;rw [<- hK] at hd1 IH;clear hK
 go_enter Tryz.func34, Tryz.ntmps34
 go_wp2
 go_loopw [5] (fun iv wr => ∃ i : Nat, i <= l.length ∧ iv = .int .i64 (i : Int) ∧ b6w k (l.take i) = false ∧ w = wr) (fun iv _ => l.length - (intOf iv).toNat)
 case atStart => exact ⟨0, Nat.zero_le _, rfl, rfl, rfl⟩
 case round =>
 obtain ⟨i, hi, rfl, hp, rfl⟩ := hrel;have HP := hid hp;have hib : i <= 40 := by have := H40.o; omega
 clear hp
 by_cases hlt : i < l.length
 . have q1 : (i : Int) < (l.length : Int) := by omega
   have q0 : 0 <= (i : Int) := by omega
   have q1n : i < l.length := hlt;have HLT := hid hlt;obtain ⟨bA, oA, u, bv, rfl, e0, e1, e2, e3, e4, e5, hu, hbv⟩ := HV.o.at_ hlt;have HS := hid (anyD_s k l hlt);have HT := hid (b4v k l hlt);rw [HP.o, Bool.false_or] at HS;have HN := hid (show a8T k l[i] = (decide (40 < l[i].ins.length) || (decide (0 < l[i].body.length) && a2m k l[i].body)) from rfl);generalize a8T k l[i] = r at *;generalize l[i] = x at *;obtain ⟨op, ins, kind, fa, a, body⟩ := x;simp only [Nd.op, Nd.kind, Nd.fa, Nd.a, Nd.ins, Nd.body] at e0 e2 e3 e4 hu hbv;replace HN := hid (show r = (decide (40 < ins.length) || (decide (0 < body.length) && a2m k body)) from HN.o);have HC := hid (IH.o _ bv body w hbv);obtain ⟨Au, cu, rfl⟩ := hu.form;obtain ⟨Ab, cb, rfl⟩ := hbv.form;clear hu hbv hlt hi e0 e2 e3 e4
   by_cases hin : 40 < ins.length
   . have HR := hid (show R = true by rw [HB.o]; exact HT.o (by rw [HN.o, decide_eq_true hin]; rfl))
     have g3 : (40 : Int) < (ins.length : Int) := by omega
     clear hin
     go_wp2_with fail
     go_ret
     exact ⟨by rw [HR.o]; rfl, rfl⟩
   have g3 : ¬ (40 : Int) < (ins.length : Int) := by omega
   rw [decide_eq_false hin, Bool.false_or] at HN;clear hin
   by_cases hbn : 0 < body.length
   . rw [decide_eq_true hbn, Bool.true_and] at HN
     have g4 : (0 : Int) < (body.length : Int) := by omega
     clear hbn;generalize a2m k body = db at *
     go_wp2_with fail
     refine HC.o.mono ?_;rintro e w' ⟨rfl, rfl⟩
     cases db with
     | true =>
      have HR := hid (show R = true by rw [HB.o]; exact HT.o HN.o)
      go_wp2
      go_ret
      exact ⟨by rw [HR.o]; rfl, rfl⟩
     | false =>
     go_wp2
     exact ⟨⟨i + 1, HLT.o, by go_num, by rw [HS.o, HN.o], by first | rfl | trivial⟩, by have := HLT.o; simp [intOf]; omega⟩
   rw [decide_eq_false hbn, Bool.false_and] at HN;have g4 : ¬ (0 : Int) < (body.length : Int) := by omega
   clear hbn
   go_wp2_with fail
   exact ⟨⟨i + 1, HLT.o, by go_num, by rw [HS.o, HN.o], by first | rfl | trivial⟩, by have := HLT.o; simp [intOf]; omega⟩
 obtain rfl : i = l.length := by omega
 have q1 : ¬ (l.length : Int) < (l.length : Int) := by omega
 rw [List.take_length] at HP;have HR := hid (show R = false by rw [HB.o, HP.o])
 go_wp2
 go_ret
 exact ⟨by rw [HR.o]; rfl, rfl⟩
def largeB (l : List Nd) : Bool := a2m 4 l
end Go.Proofs.YtdkejfjcchlnpaaGreat
namespace Go.Ox.Gr
theorem a1d {l : List Nd} {out : Int} (h : gOk (l, out) = true) : 1 <= l.length ∧ l.length <= 32 ∧ each a5i l 0 = true ∧ 0 <= out ∧ out < (l.length : Int) ∧ loops l <= 1 := by
 unfold gOk a3C at h;simp only [Bool.and_eq_true, decide_eq_true_eq] at h;exact ⟨h.1.1, h.1.2.1, h.1.2.2, h.2.1, h.2.2.1, h.2.2.2⟩
theorem a4i {n : Nd} {i : Nat} (h : base n i = true) : 1 <= n.op ∧ n.op <= 11 ∧ n.ins.length <= 2 ∧ ∀ x ∈ n.ins, 0 <= x ∧ x < (i : Int) := by
 refine ⟨?_, ?_, a6X h, ?_⟩
 all_goals
  unfold base a5N a2j at h;simp only [Bool.and_eq_true, decide_eq_true_eq, List.all_eq_true] at h
 . exact h.1.1
 . exact h.1.2
 exact h.2.2
theorem ok_fn {n : Nd} (h : b3G n = true) : okI n.kind ∧ okI n.fa := by
 unfold b3G at h;unfold okI
 split at h
 . simp only [Bool.and_eq_true, decide_eq_true_eq] at h
   omega
 rename_i hf
 simp only [decide_eq_true_eq] at h;unfold fam at h
 split at h
 . omega
 rename_i hr
 have hk : 1 <= n.kind ∧ n.kind <= 23 := by
  unfold fk at h
  repeat' split at h
  all_goals omega
 have h1 : 0 <= lst n.kind := by unfold lst; split <;> omega
 have h2 : mst n.kind <= 1048575 := by unfold mst; repeat' split <;> omega
 omega
theorem ok_num {n : Nd} {loop : Int} (h : a2J n loop = true) (hl : loop <= 1000) : okI n.a := by
 unfold a2J at h;unfold okI
 repeat' split at h
 all_goals
  simp only [Bool.and_eq_true, decide_eq_true_eq] at h;omega
theorem a1X {l : List Nd} {out : Int} (h : gOk (l, out) = true) {k : Nat} (hk : k < l.length) : base l[k] k = true ∧ b3G l[k] = true ∧ a2J l[k] (-1) = true ∧ ((l[k].op = 9 ∧ a2k l[k].body k = true) ∨ (l[k].op ≠ 9 ∧ l[k].body = [])) := by
 have h1 := a3H (a1d h).2.2.1 k hk;rw [Nat.zero_add] at h1;unfold a5i at h1;simp only [Bool.and_eq_true] at h1;refine ⟨h1.1, h1.2.1, h1.2.2.1, ?_⟩;have h2 := h1.2.2.2
 split at h2
 . rename_i q; exact .inl ⟨q, h2⟩
 rename_i q; exact .inr ⟨q, List.isEmpty_iff.1 h2⟩
theorem a5x {l : List Nd} {k : Nat} (h : a2k l k = true) : 1 <= l.length ∧ l.length <= 32 ∧ ∀ (j : Nat) (hj : j < l.length), base l[j] j = true ∧ b3G l[j] = true ∧ a2J l[j] (k : Int) = true ∧ l[j].body = [] := by
 unfold a2k at h;simp only [Bool.and_eq_true, decide_eq_true_eq] at h;refine ⟨h.1, h.2.1, fun j hj => ?_⟩
 have h3 := a3H h.2.2 j hj;rw [Nat.zero_add] at h3;unfold b3H at h3;simp only [Bool.and_eq_true] at h3;exact ⟨h3.1, h3.2.1, h3.2.2.1, List.isEmpty_iff.1 h3.2.2.2⟩
theorem ok_one {n : Nd} {i : Nat} {loop : Int} (hi : i <= 1000) (hl : loop <= 1000) (h1 : base n i = true) (h2 : b3G n = true) (h3 : a2J n loop = true) :
 okI n.op ∧ okI n.kind ∧ okI n.fa ∧ okI n.a ∧ n.ins.length <= 2 ∧ ∀ x ∈ n.ins, okI x := by
 obtain ⟨a1, a2, a3, a4⟩ := a4i h1;exact ⟨by unfold okI; omega, (ok_fn h2).1, (ok_fn h2).2, ok_num h3 hl, a3, fun x hx => by have := a4 x hx; unfold okI; omega⟩
theorem a8V {l : List Nd} {out : Int} (h : gOk (l, out) = true) : Fit 2 l ∧ okI out := by
 have hp := a1d h;refine ⟨⟨hp.2.1, fun n hn => ?_⟩, by unfold okI; omega⟩
 obtain ⟨k, hk, rfl⟩ := List.getElem_of_mem hn;obtain ⟨b1, b2, b3, b4⟩ := a1X h hk;refine ⟨ok_one (by omega) (by omega) b1 b2 b3, ?_⟩
 rcases b4 with ⟨h9, hb⟩ | ⟨h9, hb⟩
 . obtain ⟨c1, c2, c3⟩ := a5x hb
   refine ⟨c2, fun m hm => ?_⟩
   obtain ⟨j, hj, rfl⟩ := List.getElem_of_mem hm;obtain ⟨d1, d2, d3, d4⟩ := c3 j hj;exact ⟨ok_one (by omega) (by omega) d1 d2 d3, d4⟩
 rw [hb];exact ⟨by simp, fun m hm => by simp at hm⟩
theorem a88 {l : List Nd} {out : Int} (h : gOk (l, out) = true) : Lk l := by
 have hf := (a8V h).1;refine ⟨by have := hf.1; omega, fun n hn => ?_⟩
 have h2 := (hf.2 n hn).2;exact ⟨by have := h2.1; omega, by have := (hf.2 n hn).1.2.2.2.2.1; omega, fun m hm => by have := (h2.2 m hm).1.2.2.2.2.1; omega⟩
theorem a4j (n : Nd) (l : List Nd) : loops (n :: l) = (if n.op = 9 then 1 else 0) + loops l := by
 unfold loops
 by_cases h : n.op = 9 <;> simp [h, Nat.add_comm]
theorem a4k : ∀ {l : List Nd}, loops l = 0 -> ∀ n ∈ l, n.op ≠ 9
 | n :: l, h, m, hm => by
  rw [a4j] at h
  rcases List.mem_cons.1 hm with rfl | hm
  . intro q; rw [if_pos q] at h; omega
  . exact a4k (by omega) m hm
def a0D {α : Type} (F : Nat -> Nd -> List α) : List Nd -> Nat -> List α
 | [], _ => []
 | n :: l, i => F i n ++ a0D F l (i + 1)
theorem a6s {α : Type} {F : Nat -> Nd -> List α} : ∀ {l : List Nd} {i : Nat}, (∀ i, ∀ n ∈ l, F i n = []) -> a0D F l i = []
 | [], _, _ => rfl
 | n :: l, i, h => by
  unfold a0D;rw [h i n List.mem_cons_self, a6s fun i m hm => h i m (List.mem_cons_of_mem _ hm)]
  rfl
theorem a3L {α : Type} {F : Nat -> Nd -> List α} : ∀ {l : List Nd} {i : Nat}, loops l <= 1 -> (∀ i, ∀ n ∈ l, n.op ≠ 9 -> F i n = []) ->
 a0D F l i = if 0 <= a0k l i then F (a0k l i).toNat (l[(a0k l i).toNat - i]?.getD default) else []
 | [], i, _, _ => rfl
 | n :: l, i, hl, h => by
  rw [a4j] at hl;unfold a0D
  by_cases h9 : n.op = 9
  . rw [if_pos h9] at hl
    rw [a6s (l := l) fun i m hm => h i m (List.mem_cons_of_mem _ hm) (a4k (by omega) m hm), a15 h9, if_pos (by omega)]
    simp
  . rw [if_neg h9] at hl
    rw [h i n List.mem_cons_self h9, a10 h9, List.nil_append, a3L (by omega) fun i m hm => h i m (List.mem_cons_of_mem _ hm)]
    rcases a1p l (i + 1) with q | ⟨q, _⟩
    . rw [q]; rfl
    . rw [if_pos (by omega), if_pos (by omega)]
      obtain ⟨j, hj⟩ : ∃ j, (a0k l (i + 1)).toNat - i = j + 1 := ⟨(a0k l (i + 1)).toNat - i - 1, by omega⟩
      rw [hj, List.getElem?_cons_succ, show (a0k l (i + 1)).toNat - (i + 1) = j by omega]
theorem a3M : ∀ {l : List Nd} {i k : Nat} (hk : k < l.length), loops l <= 1 -> l[k].op = 9 -> a0k l i = ((i + k : Nat) : Int)
 | n :: l, i, k, hk, hl, h9 => by
  rw [a4j] at hl
  cases k with
  | zero => exact a15 h9
  | succ k =>
   have hk2 : k < l.length := by simpa using hk
   have h9' : l[k].op = 9 := h9
   by_cases hn : n.op = 9
   . rw [if_pos hn] at hl
     exact absurd h9' (a4k (by omega) _ (List.getElem_mem hk2))
   . rw [if_neg hn] at hl
     rw [a10 hn, a3M hk2 (by omega) h9']
     omega
theorem a2B {l : List Nd} {k : Nat} (hk : k < l.length) (hl : loops l <= 1) (h9 : l[k].op = 9) : a05 l = (k : Int) := by
 unfold a05;rw [a3M hk hl h9, Nat.zero_add]
theorem a3N {α : Type} (f : Pl -> List α) : ∀ (l : List Nd) (i : Nat), (a0i l i).flatMap f = a0D (fun i n => f ((i : Int), -1) ++ (List.range n.body.length).flatMap fun (k : Nat) => f ((i : Int), (k : Int))) l i
 | [], _ => rfl
 | n :: l, i => by
  unfold a0i a0D plN;rw [List.flatMap_append, a3N f l (i + 1), List.flatMap_cons, List.flatMap_map]
theorem a3O {α : Type} {F G : Nat -> Nd -> List α} : ∀ {l : List Nd} {i : Nat}, (∀ (k : Nat) (hk : k < l.length), F (i + k) l[k] = G (i + k) l[k]) -> a0D F l i = a0D G l i
 | [], _, _ => rfl
 | n :: l, i, h => by
  unfold a0D;have h0 := h 0 (by simp)
  rw [Nat.add_zero] at h0;have h0 : F i n = G i n := h0
  have h1 : a0D F l (i + 1) = a0D G l (i + 1) := a3O fun k hk => by
   have := h (k + 1) (by simpa using hk)
   rw [show i + (k + 1) = i + 1 + k by omega] at this
   exact this
  rw [h0, h1]
theorem a1M {l : List Nd} {k : Nat} (hk : k < l.length) : nodeAt l ((k : Int), -1) = some l[k] := by
 unfold nodeAt;rw [if_pos (by simp)]
 simp [List.getElem?_eq_getElem hk]
theorem a2n {l : List Nd} {k j : Nat} (hk : k < l.length) (hj : j < l[k].body.length) : nodeAt l ((k : Int), (j : Int)) = some l[k].body[j] := by
 unfold nodeAt;rw [if_pos (by simp)]
 simp only [Int.toNat_natCast, List.getElem?_eq_getElem hk];rw [if_neg (by omega), if_pos (by omega), List.getElem?_eq_getElem hj]
theorem a5y (name : Int) (f : Nat -> Pl) : ∀ (l : List Nd) (i : Nat), a1g name f l i = a0D (fun i n => nmN name (f i) n.ins) l i
 | [], _ => rfl
 | n :: l, i => by unfold a1g a0D; rw [a5y name f l (i + 1)]
theorem a4l {α : Type} (F : Nat -> Nd -> List α) : ∀ (l : List Nd) (f : Nat -> List α) (i : Nat), (∀ (k : Nat) (hk : k < l.length), f k = F (i + k) l[k]) -> (List.range l.length).flatMap f = a0D F l i
 | [], _, _, _ => rfl
 | n :: l, f, i, h => by
  rw [List.length_cons, List.range_succ_eq_map, List.flatMap_cons, List.flatMap_map];unfold a0D;have h0 := h 0 (by simp)
  rw [Nat.add_zero] at h0;have h0 : f 0 = F i n := h0
  have h1 : (List.range l.length).flatMap (fun k => f (k + 1)) = a0D F l (i + 1) := a4l F l (fun k => f (k + 1)) (i + 1) fun k hk => by
   have := h (k + 1) (by simpa using hk)
   rw [show i + (k + 1) = i + 1 + k by omega] at this
   exact this
  rw [h0];exact congrArg _ h1
theorem ouN_fm (name lp : Int) (body : List Nd) : ouN name lp body = a0D (fun k n => if n.op = 11 ∧ n.a = name then [((lp, (k : Int)), (0 : Int))] else []) body 0 := by
 unfold ouN
 suffices h : ∀ (b : List Nd) (i : Nat), (b.zipIdx i).filterMap (fun x => if x.1.op = 11 ∧ x.1.a = name then some ((lp, (x.2 : Int)), (0 : Int)) else none) = a0D (fun k n => if n.op = 11 ∧ n.a = name then [((lp, (k : Int)), (0 : Int))] else []) b i from h body 0
 intro b
 induction b with
 | nil => intro i; rfl
 | cons n b ih =>
 intro i;rw [List.zipIdx_cons, List.filterMap_cons];unfold a0D
 by_cases q : n.op = 11 ∧ n.a = name
 . simp only [if_pos q, ih]; rfl
 simp only [if_neg q, ih]; rfl
theorem b2n {l : List Nd} {out : Int} (h : gOk (l, out) = true) {k : Nat} (hk : k < l.length) : l[k].op ≠ 11 := by
 intro q;have := (a1X h hk).2.2.1;unfold a2J at this;rw [if_neg (by omega), if_neg (by omega), if_neg (by omega), if_pos q] at this
 simp at this
theorem a5z {l : List Nd} {out : Int} (h : gOk (l, out) = true) {n : Nd} (hn : n ∈ l) (h9 : n.op ≠ 9) : n.body = [] := by
 obtain ⟨k, hk, rfl⟩ := List.getElem_of_mem hn
 rcases (a1X h hk).2.2.2 with q | q
 . exact absurd q.1 h9
 exact q.2
theorem b2o {l : List Nd} {out : Int} (h : gOk (l, out) = true) (i : Int) : ru true i l = a5S l i := by
 unfold ru a5S
 congr 1
 . unfold a2y a0a a0N
   rw [a3N, a5y];refine a3O fun k hk => ?_
   rw [Nat.zero_add, a1M hk]
   have : ((List.range l[k].body.length).flatMap fun (j : Nat) => a4R true i ((nodeAt l ((k : Int), (j : Int))).getD default) ((k : Int), (j : Int))) = [] := by
    rw [List.flatMap_eq_nil_iff];intro j _;unfold a4R;rw [if_neg];simp
   rw [this, List.append_nil];unfold a4R;rw [if_pos (by simp)]
   rfl
 unfold a4F a0a;rw [a3N]
 have e : a0D (fun (i' : Nat) (n : Nd) => a5q true i ((nodeAt l ((i' : Int), -1)).getD default) ((i' : Int), -1) ++ (List.range n.body.length).flatMap fun (k : Nat) => a5q true i ((nodeAt l ((i' : Int), (k : Int))).getD default) ((i' : Int), (k : Int))) l 0 =
  a0D (fun (i' : Nat) (n : Nd) => ouN i (i' : Int) n.body) l 0 := by
  refine a3O fun k hk => ?_
  rw [Nat.zero_add, a1M hk]
  have e1 : a5q true i ((some l[k]).getD default) ((k : Int), -1) = [] := by
   unfold a5q;rw [if_pos rfl, Option.getD_some, if_neg (fun q => b2n h hk q.1)]
  rw [e1, List.nil_append, ouN_fm];refine a4l (fun (j : Nat) n => if n.op = 11 ∧ n.a = i then [(((k : Int), (j : Int)), (0 : Int))] else []) _ _ 0 fun j hj => ?_
  rw [a2n hk hj, Nat.zero_add];unfold a5q;rw [if_pos rfl, Option.getD_some]
 rw [e, a3L (a1d h).2.2.2.2.2 fun i' n hn h9 => by rw [a5z h hn h9]; rfl]
 unfold a05
 by_cases q : 0 <= a0k l 0
 . rw [if_pos q, if_pos q, Int.toNat_of_nonneg q, Nat.sub_zero]
 rw [if_neg q, if_neg q]
theorem b6x {l : List Nd} {out : Int} (h : gOk (l, out) = true) {i j : Nat} (hi : i < l.length) (hj : j < l[i].body.length) : ru false (j : Int) l = a0N (j : Int) (fun k => ((i : Int), (k : Int))) l[i].body := by
 have h9 : l[i].op = 9 := by
  rcases (a1X h hi).2.2.2 with q | q
  . exact q.1
  rw [q.2] at hj; simp at hj
 have hl := a2B hi (a1d h).2.2.2.2.2 h9
 have e1 : a4F false (j : Int) l (a0a l) = [] := by
  unfold a4F;rw [List.flatMap_eq_nil_iff];intro q _;unfold a5q;rw [if_neg (by simp)]
 unfold ru;rw [e1, List.append_nil];unfold a2y a0a;rw [a3N]
 have e : a0D (fun (i' : Nat) (n : Nd) => a4R false (j : Int) ((nodeAt l ((i' : Int), -1)).getD default) ((i' : Int), -1) ++ (List.range n.body.length).flatMap fun (k : Nat) => a4R false (j : Int) ((nodeAt l ((i' : Int), (k : Int))).getD default) ((i' : Int), (k : Int))) l 0 =
  a0D (fun (i' : Nat) (n : Nd) => a0N (j : Int) (fun k => ((i' : Int), (k : Int))) n.body) l 0 := by
  refine a3O fun k hk => ?_
  rw [Nat.zero_add]
  have e1 : a4R false (j : Int) ((nodeAt l ((k : Int), -1)).getD default) ((k : Int), -1) = [] := by
   unfold a4R;rw [if_neg (by simp)]
  rw [e1, List.nil_append];unfold a0N;rw [a5y];refine a4l (fun (j' : Nat) n => nmN (j : Int) ((k : Int), (j' : Int)) n.ins) _ _ 0 fun j' hj' => ?_
  rw [a2n hk hj', Nat.zero_add];unfold a4R;have : ¬ ((j' : Int) < 0) := by omega
  rw [if_pos (by simp [this])]
  rfl
 rw [e, a3L (a1d h).2.2.2.2.2 fun i' n hn h9 => by rw [a5z h hn h9]; rfl]
 unfold a05 at hl;rw [hl, if_pos (by omega), Nat.sub_zero, Int.toNat_natCast, List.getElem?_eq_getElem hi]
 rfl
theorem b6y {n : Nd} (h : okI n.op ∧ okI n.kind ∧ okI n.fa ∧ okI n.a ∧ n.ins.length <= 2 ∧ ∀ x ∈ n.ins, okI x) : (a5T n).length <= 63 := by
 obtain ⟨h1, h2, h3, h4, h5, h6⟩ := h;have a1 := a1y [n.op, (n.ins.length : Int)] (by intro x hx; simp at hx; rcases hx with rfl | rfl; exact h1; omega)
 have a2 := a1y n.ins h6;have a3 := a1y [n.kind, n.fa, n.a] (by intro x hx; simp at hx; rcases hx with rfl | rfl | rfl; exact h2; exact h3; exact h4)
 unfold a5T;rw [List.length_append, List.length_append];simp only [List.length_cons, List.length_nil] at a1 a3;omega
theorem a9M {d C : Nat} {l : List Nd} (h : Fit (d + 1) l) (hb : ∀ l, Fit d l -> (a42 d l).length <= C) : (a42 (d + 1) l).length <= 9 + 32 * (63 + C) := by
 have h0 := a2A (n := l.length) (by have := h.1; omega)
 have h1 := a3r (fun n => a5T n ++ a42 d n.body) (63 + C) l (fun n hn => by
  have a := b6y (h.2 n hn).1;have b := hb _ (h.2 n hn).2
  rw [List.length_append]; omega)
 have h3 : l.length * (63 + C) <= 32 * (63 + C) := Nat.mul_le_mul_right _ h.1;unfold a42;rw [List.length_append];omega
theorem b6z {l : List Nd} {out : Int} (h : Fit 2 l) (ho : okI out) : (grL (l, out)).length <= 1000000 := by
 have h2 : (a42 2 l).length <= 9 + 32 * (63 + (9 + 32 * (63 + 9))) := a9M (C := 9 + 32 * (63 + 9)) h (fun l h1 => a9M (C := 9) h1 (fun l h0 => by
  obtain rfl : l = [] := h0
  exact a2A (by simp)))
 have h3 := a2A (n := out.toNat) (by have := ho.1; have := ho.2; omega)
 unfold grL;rw [List.length_append];dsimp only;omega
open Go.RowKit
def gPl (g : G) : List Pl := if gOk g = true then a0a g.1 else []
def gNd (g : G) (p : Pl) : Option Nd := if gOk g = true then nodeAt g.1 p else none
def gUs (g : G) (p : Pl) : List ((Int × Int) × Int) := if (gNd g p).isSome = true then (if p.2 < 0 then ru true p.1 g.1 else ru false p.2 g.1) else []
theorem a1z {l : List Nd} {p : Pl} {n : Nd} (h : nodeAt l p = some n) : ∃ (i : Nat) (hi : i < l.length), p.1 = (i : Int) ∧ ((p.2 = -1 ∧ n = l[i]) ∨ ∃ (j : Nat) (hj : j < l[i].body.length), p.2 = (j : Int) ∧ n = l[i].body[j]) := by
 unfold nodeAt at h
 by_cases h0 : 0 <= p.1
 . rw [if_pos h0] at h
   cases hn : l[p.1.toNat]? with
   | none => rw [hn] at h; cases h
   | some m =>
   rw [hn] at h;obtain ⟨hk, hkn⟩ := List.getElem?_eq_some_iff.1 hn;simp only at h;refine ⟨p.1.toNat, hk, by omega, ?_⟩
   by_cases h1 : p.2 = -1
   . rw [if_pos h1] at h
     injection h with h
     exact .inl ⟨h1, by rw [hkn, h]⟩
   rw [if_neg h1] at h
   by_cases h2 : 0 <= p.2
   . rw [if_pos h2] at h
     obtain ⟨hj, hjn⟩ := List.getElem?_eq_some_iff.1 h;subst hkn;exact .inr ⟨p.2.toNat, hj, by omega, hjn.symm⟩
   rw [if_neg h2] at h; cases h
 rw [if_neg h0] at h; cases h
theorem a8W {l : List Nd} {i j : Int} (h : nodeAt l (i, j) = none) : i < 0 ∨ (l.length : Int) <= i ∨ j < -1 ∨ ∃ (k : Nat) (hk : k < l.length), i = (k : Int) ∧ 0 <= j ∧ (l[k].body.length : Int) <= j := by
 by_cases h0 : 0 <= i
 . by_cases h1 : (l.length : Int) <= i
   . exact .inr (.inl h1)
   by_cases h2 : j < -1
   . exact .inr (.inr (.inl h2))
   obtain ⟨k, rfl⟩ : ∃ k : Nat, i = (k : Int) := ⟨i.toNat, by omega⟩
   have hk : k < l.length := by omega
   by_cases h3 : j = -1
   . subst h3
     rw [a1M hk] at h; cases h
   obtain ⟨m, rfl⟩ : ∃ m : Nat, j = (m : Int) := ⟨j.toNat, by omega⟩
   by_cases hm : m < l[k].body.length
   . rw [a2n hk hm] at h; cases h
   exact .inr (.inr (.inr ⟨k, hk, rfl, by omega, by omega⟩))
 exact .inl (by omega)
theorem a4m {g : G} {p : Pl} (h : gOk g = true) : (gNd g p).isSome = true ↔ p ∈ a0a g.1 := by
 unfold gNd;rw [if_pos h, a2l]
end Go.Ox.Gr
namespace Go.Proofs.YtdkejfjcchlnpaaGreat
open Go.RowKit Go.Ox Go.Ox.Gr
attribute [local irreducible] RE OE a00
theorem a8X (d : Nat) (v : Value) (l : List Nd) (out : Int) (w : World) (hv : a00 d w v l) (hok : gOk (l, out) = false) :
 Calls Tryz.prog 166 #[gAg v out] w fun e w' => e = .returned (.slice none 0 0) ∧ Ext w w' := by
 obtain ⟨A, c, rfl⟩ := hv.form;have HX0 := hid ((Ext.refl w).alloc (gCs (.slice A l.length c) out));have HB0 := hid (Blk.new w 24 #[.slice A l.length c, .int .i64 out]);have HC := hid (a0G d (.slice A l.length c) l out _ (hv.ext HX0.o));rw [show gE (l, out) = 170 from by unfold gE; rw [hok]; rfl] at HC
 clear hv hok
 go_enter Tryz.func166, Tryz.ntmps166
 go_upto_region 1 with fail
 generalize w.heap.size = p at *;generalize w.alloc (gCs (.slice A l.length c) out) = w0 at *;have y0 := HB0.o.c0;have y1 := HB0.o.c1
 go_wp2_with fail
 refine HC.o.mono ?_;rintro e w1 ⟨rfl, he1⟩
 go_wp2
 go_ret
 exact ⟨rfl, HX0.o.trans he1⟩
theorem a2C {l : List Nd} {out : Int} (h : gOk (l, out) = true) : l.length <= 100 ∧ ∀ n ∈ l, n.body.length <= 100 := ⟨(a88 h).1, fun n hn => ((a88 h).2 n hn).1⟩
theorem a8Y (d : Nat) (v : Value) (g : G) (w : World) (hv : a00 d w v g.1) :
 Calls Tryz.prog 166 #[gAg v g.2] w fun e w' => ∃ u, e = .returned u ∧ RE w' u (gPl g) ∧ Ext w w' := by
 obtain ⟨l, out⟩ := g
 cases hok : gOk (l, out) with
 | true =>
  refine (b0y d v l out w hv (a2C hok).1 (a2C hok).2 hok).mono ?_;rintro e w' ⟨u, rfl, ho, he⟩;exact ⟨u, rfl, by unfold gPl; rw [if_pos hok]; exact ho.re, he⟩
 | false =>
 refine (a8X d v l out w hv hok).mono ?_;rintro e w' ⟨rfl, he⟩;exact ⟨_, rfl, by unfold gPl; rw [if_neg (by rw [hok]; simp)]; exact RE.a2g _, he⟩
theorem a9N (d : Nat) (v : Value) (g : G) (p : Pl) (w : World) (hv : a00 d w v g.1) (hg : gNd g p = none) :
 Calls Tryz.prog 68 #[gAg v g.2, plV p] w fun e w' => e = .returned (.tuple #[b69, .bool false]) ∧ Ext w w' := by
 obtain ⟨l, out⟩ := g;obtain ⟨i, j⟩ := p
 cases hok : gOk (l, out) with
 | false => exact a1m d v l out i j w hv (.inl hok)
 | true =>
 unfold gNd at hg;rw [if_pos hok] at hg
 rcases a8W hg with q | q | q | ⟨k, hk, rfl, q1, q2⟩
 . exact a1m d v l out i j w hv (.inr ⟨hok, .inl q⟩)
 . by_cases q0 : i < 0
   . exact a1m d v l out i j w hv (.inr ⟨hok, .inl q0⟩)
   exact a1m d v l out i j w hv (.inr ⟨hok, .inr (.inl ⟨by omega, q⟩)⟩)
 . by_cases q0 : i < 0
   . exact a1m d v l out i j w hv (.inr ⟨hok, .inl q0⟩)
   by_cases q1 : (l.length : Int) <= i
   . exact a1m d v l out i j w hv (.inr ⟨hok, .inr (.inl ⟨by omega, q1⟩)⟩)
   exact a1m d v l out i j w hv (.inr ⟨hok, .inr (.inr ⟨by omega, by omega, q⟩)⟩)
 have hkn := List.getElem?_eq_getElem hk;generalize l[k] = n at *;obtain ⟨op, ins, kind, fa, a, body⟩ := n;exact b24 d v l out k j op kind fa a ins body w hv hok hkn ⟨q1, q2⟩
theorem a89 (d : Nat) (v : Value) (g : G) (p : Pl) (w : World) (hv : a00 d w v g.1) :
 Calls Tryz.prog 68 #[gAg v g.2, plV p] w fun e w' => ∃ u b, e = .returned (.tuple #[a1e ((gNd g p).getD default).op ((gNd g p).getD default).kind ((gNd g p).getD default).fa ((gNd g p).getD default).a u b, .bool (gNd g p).isSome]) ∧
  RE w' u ((gNd g p).getD default).ins ∧ a00 1 w' b ((gNd g p).getD default).body ∧ Ext w w' := by
 cases hn : gNd g p with
 | none =>
  refine (a9N d v g p w hv hn).mono ?_;rintro e w' ⟨rfl, he⟩;exact ⟨.slice none 0 0, .slice none 0 0, rfl, RE.a2g _, a00.nil _ _, he⟩
 | some n =>
  obtain ⟨l, out⟩ := g;obtain ⟨i, j⟩ := p
  have hok : gOk (l, out) = true := by
   cases h : gOk (l, out) with
   | true => rfl
   | false => unfold gNd at hn; rw [if_neg (by rw [h]; simp)] at hn; cases hn
  have hn2 : nodeAt l (i, j) = some n := by unfold gNd at hn; rw [if_pos hok] at hn; exact hn
  obtain ⟨k, hk, h1, h2⟩ := a1z hn2;simp only at h1 h2;subst h1;have hkn := List.getElem?_eq_getElem hk
  rcases h2 with ⟨rfl, rfl⟩ | ⟨m, hm, rfl, rfl⟩
  . generalize l[k] = n at *
    obtain ⟨op, ins, kind, fa, a, body⟩ := n;exact a7T d v l out k op kind fa a ins body w hv hok hkn
  . have hb : l[k].body[m].body = [] := ((a5k hok (List.getElem_mem hk)).2.2 _ (List.getElem_mem hm)).1
    have hmn := List.getElem?_eq_getElem hm;generalize l[k].body[m] = x at *;generalize l[k] = n at *;obtain ⟨op, ins, kind, fa, a, body⟩ := n;obtain ⟨mop, mins, mkind, mfa, ma, mbody⟩ := x;refine (a9E d v l out k m op kind fa a ins body w hv hok hkn mop mkind mfa ma mins mbody hmn).mono ?_;rintro e w' ⟨u, rfl, hu, he⟩;obtain rfl : mbody = [] := hb;exact ⟨u, .slice none 0 0, rfl, hu, a00.nil _ _, he⟩
theorem a8a (d : Nat) (v : Value) (g : G) (p : Pl) (w : World) (hv : a00 d w v g.1) (hok : gOk g = true) :
 Calls Tryz.prog 52 #[gAg v g.2, plV p] w fun e w' => ∃ u b, e = .returned (.tuple #[a1e ((gNd g p).getD default).op ((gNd g p).getD default).kind ((gNd g p).getD default).fa ((gNd g p).getD default).a u b, .bool (gNd g p).isSome]) ∧
  RE w' u ((gNd g p).getD default).ins ∧ a00 d w' b ((gNd g p).getD default).body ∧ Ext w w' := by
 obtain ⟨l, out⟩ := g;obtain ⟨i, j⟩ := p;have hg : gNd (l, out) (i, j) = nodeAt l (i, j) := by unfold gNd; rw [if_pos hok]
 have hl := a2C hok
 cases hn : nodeAt l (i, j) with
 | none =>
  rw [hg, hn];have hin : ((i, j) : Pl) ∉ a0a l := fun q => by rw [a2l, hn] at q; cases q
  refine (b0D d v l out i j w hv hl.1 hl.2 hin).mono ?_;rintro e w' ⟨rfl, he⟩;exact ⟨.slice none 0 0, .slice none 0 0, rfl, RE.a2g _, a00.nil _ _, he⟩
 | some n =>
  rw [hg, hn];have hin : ((i, j) : Pl) ∈ a0a l := by rw [a2l, hn]; rfl
  obtain ⟨k, hk, h1, h2⟩ := a1z hn;simp only at h1 h2;subst h1;have hkn := List.getElem?_eq_getElem hk
  rcases h2 with ⟨rfl, rfl⟩ | ⟨m, hm, rfl, rfl⟩
  . generalize l[k] = n at *
    obtain ⟨op, ins, kind, fa, a, body⟩ := n;refine (a7P d v l out k op kind fa a ins body w w hv (Ext.refl _) hl.1 hl.2 hkn hin).mono ?_;rintro e w' ⟨u, b, rfl, hu, hb, he⟩;exact ⟨u, b, rfl, hu.ext he, (hb.le (by omega)).ext he, he⟩
  . have hmn := List.getElem?_eq_getElem hm
    generalize l[k].body[m] = x at *;generalize l[k] = n at *;obtain ⟨op, ins, kind, fa, a, body⟩ := n;obtain ⟨mop, mins, mkind, mfa, ma, mbody⟩ := x;refine (a9A d v l out k m op kind fa a ins body mop mkind mfa ma mins mbody w w hv (Ext.refl _) hl.1 hl.2 hkn hmn hin).mono ?_;rintro e w' ⟨u, b, rfl, hu, hb, he⟩;exact ⟨u, b, rfl, hu.ext he, (hb.le (by omega)).ext he, he⟩
theorem b0R (d : Nat) (v : Value) (g : G) (p : Pl) (w : World) (hv : a00 d w v g.1) :
 Calls Tryz.prog 167 #[gAg v g.2, plV p] w fun e w' => ∃ u, e = .returned u ∧ OE 210 w.heap.size w' u (gUs g p) ∧ Ext w w' := by
 cases hn : gNd g p with
 | none =>
  have hu : gUs g p = [] := by unfold gUs; rw [hn]; rfl
  obtain ⟨l, out⟩ := g;obtain ⟨i, j⟩ := p;refine (a8N d v l out i j w hv fun W hW => a9N d v (l, out) (i, j) W (hv.ext hW) hn).mono ?_
  rintro e w' ⟨rfl, he⟩;exact ⟨_, rfl, by rw [hu]; exact OE.a2g _ _ _, he⟩
 | some n =>
 obtain ⟨l, out⟩ := g;obtain ⟨i, j⟩ := p
 have hok : gOk (l, out) = true := by
  cases h : gOk (l, out) with
  | true => rfl
  | false => unfold gNd at hn; rw [if_neg (by rw [h]; simp)] at hn; cases hn
 have hn2 : nodeAt l (i, j) = some n := by unfold gNd at hn; rw [if_pos hok] at hn; exact hn
 have hu : gUs (l, out) (i, j) = if j < 0 then ru true i l else ru false j l := by unfold gUs; rw [hn]; rfl
 rw [hu];obtain ⟨k, hk, h1, h2⟩ := a1z hn2;simp only at h1 h2;subst h1;have hkn := List.getElem?_eq_getElem hk
 rcases h2 with ⟨rfl, rfl⟩ | ⟨m, hm, rfl, rfl⟩
 . rw [if_pos (by omega), b2o hok]
   generalize l[k] = n at *;obtain ⟨op, ins, kind, fa, a, body⟩ := n;exact b0I d v l out k op kind fa a ins body w hv hok hkn
 rw [if_neg (by omega), b6x hok hk hm]
 have hmn := List.getElem?_eq_getElem hm;generalize l[k].body[m] = x at *;generalize l[k] = n at *;obtain ⟨op, ins, kind, fa, a, body⟩ := n;obtain ⟨mop, mins, mkind, mfa, ma, mbody⟩ := x;exact b25 d v l out k m op kind fa a ins body mop mkind mfa ma mins mbody w hv hok hkn hmn
theorem b0S (d : Nat) (v : Value) (g : G) (p : Pl) (w : World) (hv : a00 d w v g.1) (hk : Lk g.1) (hn : (gNd g p).isSome = true) :
 Calls Tryz.prog 153 #[gAg v g.2, plV p] w fun e w' => ∃ u, e = .returned u ∧ RE w' u (gUs g p) ∧ Ext w w' := by
 have hu : gUs g p = if p.2 < 0 then ru true p.1 g.1 else ru false p.2 g.1 := by unfold gUs; rw [if_pos hn]
 rw [hu]
 by_cases hj : p.2 < 0
 . rw [if_pos hj]; exact b0J d v g.1 g.2 p.1 p.2 w hv hk hj
 rw [if_neg hj]; exact b27 d v g.1 g.2 p.1 p.2 w hv hk (by omega)
end Go.Proofs.YtdkejfjcchlnpaaGreat
