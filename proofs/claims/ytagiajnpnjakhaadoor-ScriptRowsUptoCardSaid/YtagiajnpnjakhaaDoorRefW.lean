/- What the document's within comes to. No condition. -/
import Derived.Test.YtagiajnpnjakhaaDoorCall
set_option linter.unusedVariables false
set_option linter.unusedSimpArgs false
namespace Go.Proofs.YtagiajnpnjakhaaDoor
open Go Go.RowKit
set_option maxRecDepth 100000 in
theorem ref_within (x : Int) (k : Nat) (w : World) (hk : k = 4 ∨ k = 8 ∨ k = 16 ∨ k = 32) : Fn Tryd.prog 63 [.int .i64 x, .int .i64 k] w [] fun v L' => v = .bool (decide (0 ≤ x) && decide (x < 2 ^ k)) ∧ L' = [] := by
  have e : IntKind.i64.wrap (1 * 2 ^ ((k : Nat) : Int).toNat) = 2 ^ k := by rw [Int.toNat_natCast, Int.one_mul]; rcases hk with rfl | rfl | rfl | rfl <;> rfl
  refine Fn.enter Tryd.func63 rfl rfl rfl rfl (Holds.nil w) ?_
  refine CW.seq ?_
  refine CW.region ?_
  refine W.p O.as ?_
  refine WL.nil (Q.tn ?_)
  refine CW.seq ?_
  refine CW.region ?_
  refine W.p O.mv ?_
  refine W.p O.geq ?_
  refine W.p O.mv ?_
  refine W.p O.mv ?_
  refine W.p O.mv ?_
  refine W.p O.shl ?_
  refine W.p O.lss ?_
  refine W.p O.pkB ?_
  refine W.p O.as ?_
  refine WL.nil (Q.tn ?_)
  refine CW.ret ?_
  refine ⟨_, [], (RVs.tmp rfl RVs.nil), List.nil_sublist _, ?_⟩
  refine ⟨congrArg Value.bool ?_, rfl⟩
  rw [e]; cases decide (0 ≤ x) <;> rfl
end Go.Proofs.YtagiajnpnjakhaaDoor
