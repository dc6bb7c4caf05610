/- Whole numbers that stay what they are. No condition. -/
import Derived.Test.YtkjcmdgideddnaaLogic
namespace Go.Proofs.Ytkjcmdgideddnaa
open Go Go.RowKit
abbrev wr : Int → Int := IntKind.i64.wrap
theorem wr_in : ∀ x : Int, 0 ≤ x → x ≤ 4611686018427387904 → wr x = x := fun x h0 h1 => wrap_in x (by omega)
theorem wr_in2 : ∀ x : Int, -4611686018427387904 ≤ x → x ≤ 4611686018427387904 → wr x = x := fun x h0 h1 => wrap_in x (by omega)
end Go.Proofs.Ytkjcmdgideddnaa
