/- How leases, reservations, configurations lie in memory. No condition. -/
import Derived.Test.YtagiajnpnjakhaaDoorPZone
import Derived.Test.YtagiajnpnjakhaaDoorCell
set_option linter.unusedVariables false
set_option linter.unusedSimpArgs false
namespace Go.Proofs.YtagiajnpnjakhaaDoor
open Go Go.RowKit
abbrev encL : Lz → List Value := fun l => [.int .i64 l.host, .int .i64 l.state, .string (S l.client), .int .i64 l.til, .string (S l.name), .bool l.won]
abbrev dL : Lz := ⟨0, 0, [], 0, [], false⟩
instance : Enc encL 6 dL := ⟨fun _ => rfl, by decide⟩
instance : EncOne encL := ⟨fun x u hu => by simp at hu; rcases hu with rfl | rfl | rfl | rfl | rfl | rfl <;> rfl⟩
abbrev encRs : Rs → List Value := fun r => [.string (S r.client), .int .i64 r.host]
abbrev dRs : Rs := ⟨[], 0⟩
instance : Enc encRs 2 dRs := ⟨fun _ => rfl, by decide⟩
instance : EncOne encRs := ⟨fun x u hu => by simp at hu; rcases hu with rfl | rfl <;> rfl⟩
abbrev vL (l : Lz) : Value := .agg (encL l).toArray
abbrev Sl2 := Option Addr × Nat
abbrev encCf (c : Cf) (e r s : Sl2) : List Value := [.int .i64 c.first, .int .i64 c.last, .slice e.1 c.excl.length e.2, .slice r.1 c.resv.length r.2, .int .i64 c.time, .string (S c.zone), .slice s.1 c.stat.length s.2]
abbrev vCf (c : Cf) (e r s : Sl2) : Value := .agg (encCf c e r s).toArray
/-- a configuration's rows -/
structure CfIn (w : World) (c : Cf) (e r s : Sl2) : Prop where
  hx : In w e.1 (c.excl.flatMap encI)
  hr : In w r.1 (c.resv.flatMap encRs)
  hs : In w s.1 (c.stat.flatMap encR)
theorem CfIn.upd {w w' : World} {L : Heap} {c : Cf} {e r s : Sl2} (h : CfIn w c e r s) (hw : Upd w [] w' L) : CfIn w' c e r s := ⟨h.hx.upd (L0 := []) hw, h.hr.upd (L0 := []) hw, h.hs.upd (L0 := []) hw⟩
/-- a configuration's sizes -/
structure CfSz (c : Cf) : Prop where
  hx : c.excl.length ≤ 1048576
  hr : c.resv.length ≤ 1048576
  hs : c.stat.length ≤ 1048576
  hz : c.zone.length ≤ 1048576
  hc : ∀ r ∈ c.resv, r.client.length ≤ 1048576
  hn : ∀ r ∈ c.stat, r.name.length ≤ 1048576 ∧ r.target.length ≤ 1048576
structure LsSz (ls : List Lz) : Prop where
  hl : ls.length ≤ 1048576
  hn : ∀ l ∈ ls, l.name.length ≤ 1048576
  hc : ∀ l ∈ ls, l.client.length ≤ 1048576
end Go.Proofs.YtagiajnpnjakhaaDoor
