/- Plain laws (PBe): lists and numbers alone. No condition. -/
set_option linter.unusedVariables false
set_option linter.unusedSimpArgs false
namespace Go.Proofs.Ytkjcmdgideddnaa
def byteOf (x : Int) : UInt8 := UInt8.ofNat (x % 256).toNat
theorem byteOf_toNat (x : Int) : ((byteOf x).toNat : Int) = x % 256 := by
  have h : (x % 256).toNat < 256 := by omega
  simp [byteOf, Nat.mod_eq_of_lt h]; omega
def beb : Int → Nat → List UInt8
  | _, 0 => []
  | x, n + 1 => beb (x / 256) n ++ [byteOf x]
@[simp] theorem beb_len : ∀ (n : Nat) (x : Int), (beb x n).length = n
  | 0, _ => rfl
  | n + 1, x => by simp [beb, beb_len n]

end Go.Proofs.Ytkjcmdgideddnaa
