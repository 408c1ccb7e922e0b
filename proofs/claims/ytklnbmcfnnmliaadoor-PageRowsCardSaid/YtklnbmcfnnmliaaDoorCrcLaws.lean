/-
  The statements' own functions of layer 2: what must come of every program.
-/
import Derived.Test.YtklnbmcfnnmliaaDoorCrc
namespace Go.Proofs.YtklnbmcfnnmliaaDoor
open Go.RowKit Go.Ox
attribute [local irreducible] OB RB

theorem n32_lit (c : Crc.W32) (n : Nat) (h : c.toNat = n) : n32 c = (n : Int) := by unfold n32; rw [h]

theorem live1 : openL (sealed [97, 98]) = some [97, 98] := by decide +kernel
theorem live2 : openL [1, 2, 3] = none := by decide +kernel
theorem live3 : Crc.sum [49, 50, 51, 52, 53, 54, 55, 56, 57] = 0xcbf43926#32 := by decide +kernel
theorem live4 : Crc.Tn (8 * 4) (Crc.sum [49, 50, 51, 52, 53]) ^^^ Crc.sum [54, 55, 56, 57] = 0xcbf43926#32 := by decide +kernel
theorem bytesLit (_ : World) : ([97, 98] : List UInt8).map byteV = [.int .u8 97, .int .u8 98] ∧ ([1, 2, 3] : List UInt8).map byteV = [.int .u8 1, .int .u8 2, .int .u8 3] ∧
    ([49, 50, 51, 52, 53, 54, 55, 56, 57] : List UInt8).map byteV = [.int .u8 49, .int .u8 50, .int .u8 51, .int .u8 52, .int .u8 53, .int .u8 54, .int .u8 55, .int .u8 56, .int .u8 57] ∧
    ([49, 50, 51, 52, 53] : List UInt8).map byteV = [.int .u8 49, .int .u8 50, .int .u8 51, .int .u8 52, .int .u8 53] ∧ ([54, 55, 56, 57] : List UInt8).map byteV = [.int .u8 54, .int .u8 55, .int .u8 56, .int .u8 57] := by
  refine ⟨?_, ?_, ?_, ?_, ?_⟩ <;> (unfold byteV n8; rfl)
theorem sum_is {v : Value} {l : List UInt8} {w : World} (hh : Halves w) (hb : RB w v l) (h : Crc.sum l = 0xcbf43926#32) :
    Calls Tryd.prog 33 #[v] w fun e w' => e = .returned (.int .u32 3421780262) ∧ w = w' := by
  have := sum_any v l w hh hb
  rw [h, show n32 0xcbf43926#32 = 3421780262 by unfold n32; rfl] at this
  exact this
/-! ### for the rows -/
theorem gTab : Tryd.prog.globalNamed "oxbow/crc.halves" = some 0 := by kernel_rfl
theorem gTabType : (Tryd.prog.globals[0]?).map (·.type) = some 70 := by kernel_rfl
theorem cells16 : Tryd.prog.cellsOf 70 = 16 := by kernel_rfl
theorem cells1 : Tryd.prog.cellsOf 42 = 1 := by kernel_rfl
def halvesL : List Int := [0, 498536548, 997073096, 651767980, 1994146192, 1802195444, 1303535960, 1342533948, 3988292384, 4027552580, 3604390888, 3412177804, 2607071920, 2262029012, 2685067896, 3183342108]
theorem halvesL_at : ∀ i, i < 16 → halvesL.getD i 0 = ((Crc.Tn 4 (BitVec.ofNat 32 i)).toNat : Int) := by decide +kernel
theorem halves_of {w : World} (h : ∀ i, i < 16 → w.cell? ⟨0, i, none⟩ = some (.int .u32 (halvesL.getD i 0))) : Halves w := fun c => by
  have hlt := and15_lt c
  have hlo := n32_lo (c &&& 15#32)
  have hi : (n32 (c &&& 15#32)).toNat < 16 := by omega
  rw [h _ hi, halvesL_at _ hi]
  congr 2
  have : (n32 (c &&& 15#32)).toNat = (c &&& 15#32).toNat := by unfold n32; omega
  rw [this, BitVec.ofNat_toNat, BitVec.setWidth_eq]
  unfold n32; rfl
theorem u32_of (x : Int) (h : 0 ≤ x ∧ x ≤ 4294967295) : n32 (BitVec.ofNat 32 x.toNat) = x := by
  unfold n32
  rw [BitVec.toNat_ofNat, Nat.mod_eq_of_lt (by omega)]; omega

end Go.Proofs.YtklnbmcfnnmliaaDoor
