/- What the helpers of the laws come to: rows that are copied, lent, compared, written over. Conditions: the rows are not longer than a thousand millions. -/
import Derived.Test.YtagiajnpnjakhaaDoorCall
import Derived.Test.YtagiajnpnjakhaaDoorPRL
set_option linter.unusedVariables false
set_option linter.unusedSimpArgs false
namespace Go.Proofs.YtagiajnpnjakhaaDoor
open Go Go.RowKit
structure Qn' where
  name : List UInt8
  type : Int
deriving DecidableEq
abbrev encK : Kn → List Value := fun k => [.string (S k.name), .int .i64 k.pos]
abbrev dK : Kn := ⟨[], 0⟩
abbrev encQ : Qn' → List Value := fun k => [.string (S k.name), .int .i64 k.type]
abbrev dQ : Qn' := ⟨[], 0⟩
abbrev encR : RR → List Value := fun r => [.string (S r.name), .int .i64 r.type, .int .i64 r.ttl, .int .i64 r.addr, .string (S r.target), .string (S r.text), .int .i64 r.serial]
abbrev dR : RR := ⟨[], 0, 0, 0, [], [], 0⟩
instance : Enc encK 2 dK := ⟨fun _ => rfl, by decide⟩
instance : EncOne encK := ⟨fun x u hu => by simp at hu; rcases hu with rfl | rfl <;> rfl⟩
instance : Enc encQ 2 dQ := ⟨fun _ => rfl, by decide⟩
instance : EncOne encQ := ⟨fun x u hu => by simp at hu; rcases hu with rfl | rfl <;> rfl⟩
instance : Enc encR 7 dR := ⟨fun _ => rfl, by decide⟩
instance : EncOne encR := ⟨fun x u hu => by simp at hu; rcases hu with rfl | rfl | rfl | rfl | rfl | rfl | rfl <;> rfl⟩
set_option maxRecDepth 100000 in
theorem law0_Num (v : Int) (w : World) : Fn Tryd.prog 19 [.int .i64 v] w [] fun r L' => r = .int .i64 v ∧ L' = [] := by
  refine Fn.enter Tryd.func19 rfl rfl rfl rfl (Holds.nil w) ?_
  refine CW.seq ?_
  refine CW.region ?_
  refine W.p O.as ?_
  refine WL.nil (Q.tn ?_)
  refine CW.seq ?_
  refine CW.region ?_
  refine W.p O.mv ?_
  refine W.p O.as ?_
  refine WL.nil (Q.tn ?_)
  refine CW.ret ?_
  refine ⟨_, [], (RVs.tmp rfl RVs.nil), List.nil_sublist _, ?_⟩
  exact ⟨rfl, rfl⟩
abbrev mkKnowns : Kn := ⟨[], 77777⟩
end Go.Proofs.YtagiajnpnjakhaaDoor
