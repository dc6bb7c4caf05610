/- Cells that are read, calls that are left out. No condition. -/
import Derived.Test.YtkjcmdgideddnaaLaw0
set_option linter.unusedVariables false
set_option linter.unusedSimpArgs false
namespace Go.Proofs.Ytkjcmdgideddnaa
open Go Go.RowKit
/-- a cell that can be read, whatever else goes on -/
class Cell (w0 : World) (L0 L : Heap) (q : Addr) (v : outParam Value) : Prop where h : ∀ w, Upd w0 L0 w L → In w (some q) [v]
theorem O.ldC {P : Program} {d n : Nat} {w0 : World} {L0 L : Heap} {all : List Oper} {E : Env} {x : Operand} {T ty : TypeId} {pos : String} {aft : Array Edge} {g : Option (Nat × Bool)} {G : Bool} {q : Addr} {v : Value} [TScal P T] (hp : Pre n all E g d G := by exact ⟨rfl, rfl⟩) (hx : Val G E x (.pointer (some q)) := by first | exact vt rfl | exact vs rfl | exact vi rfl and1 | exact vi rfl (fun h => and1 (and1 h)) | exact vi rfl (by simp +contextual)) [c : Cell w0 L0 L q v] :
    QV P n w0 L0 all ⟨some d, .load T x, ty, pos, aft, g⟩ E L d G v :=
  O.val rfl hp (fun hG A w ha hw => by
    rcases c.h w hw with h | ⟨b, p, arr, U', fz, he, hb, hc⟩
    · cases h
    · cases he
      have h0 := hc 0 (by simp)
      have hb' : w.heap[b]? = some (.cells arr.toList.toArray U' fz) := by simpa using hb
      have := run_load_one (P := P) (T := T) (o := p) (v := v) hb' (by simpa using h0)
      simp [execOp, Instr.loadAt, Instr.sureAddr, hx.eval hG ha, Sem.run_bind, this])
theorem W.offc {P : Program} {d n : Nat} {w0 : World} {L0 L : Heap} {all rest : List Oper} {E : Env} {Q : Post} {o : Oper} (v : Value) (hd : o.dst = some d) (hn : Nat.blt d n = true) (hg : gd all E o.guard = some false) (k : WL P n w0 L0 all rest ((d, false, v) :: E) L Q) : WL P n w0 L0 all (o :: rest) E L Q := by
  intro a w ha hw
  have h1 := gd_wanted ha hg
  have hlt : d < n := by simpa using hn
  have := k _ w (ha.put (G := false) (v := v) hlt) hw
  unfold wpList
  rw [if_neg (by rw [h1]; decide), hd]
  exact this
theorem CW.permH {P : Program} {n : Nat} {w0 : World} {L0 L L' : Heap} {c : Code} {E : Env} {Q : Post} (hp : L.Perm L') (h : CW P n w0 L0 c E L' Q) : CW P n w0 L0 c E L Q := fun a w ha hw => h a w ha (hw.perm hp.symm)
end Go.Proofs.Ytkjcmdgideddnaa
