/- Cells that are read, calls that are left out. No condition. -/
import Derived.Test.YtagiajnpnjakhaaDoorLies
set_option linter.unusedVariables false
set_option linter.unusedSimpArgs false
namespace Go.Proofs.YtagiajnpnjakhaaDoor
open Go Go.RowKit
/-- a cell that can be read, whatever else goes on -/
class Cell (w0 : World) (L0 L : Heap) (q : Addr) (v : outParam Value) : Prop where h : ∀ w, Upd w0 L0 w L → In w (some q) [v]
theorem O.ldC {P : Program} {d n : Nat} {w0 : World} {L0 L : Heap} {all : List Oper} {E : Env} {x : Operand} {T ty : TypeId} {pos : String} {aft : Array Edge} {g : Option (Nat × Bool)} {G : Bool} {q : Addr} {v : Value} [TScal P T] (hp : Pre n all E g d G := by exact ⟨rfl, rfl⟩) (hx : Val G E x (.pointer (some q)) := by first | exact vt rfl | exact vs rfl | exact vi rfl and1 | exact vi rfl (fun h => and1 (and1 h)) | exact vi rfl (by simp +contextual)) [c : Cell w0 L0 L q v] :
    QV P n w0 L0 all ⟨some d, .load T x, ty, pos, aft, g⟩ E L d G v :=
  O.val rfl hp (fun hG A w ha hw => by
    rcases c.h w hw with h | ⟨b, p, arr, U', fz, he, hb, hc⟩
    · cases h
    · cases he
      have h0 := hc 0 (by simp)
      have hb' : w.heap[b]? = some (.cells arr.toList.toArray U' fz) := by simpa using hb
      have := run_load_one (P := P) (T := T) (o := p) (v := v) hb' (by simpa using h0)
      simp [execOp, Instr.loadAt, Instr.sureAddr, hx.eval hG ha, Sem.run_bind, this])
theorem W.offc {P : Program} {d n : Nat} {w0 : World} {L0 L : Heap} {all rest : List Oper} {E : Env} {Q : Post} {o : Oper} (v : Value) (hd : o.dst = some d) (hn : Nat.blt d n = true) (hg : gd all E o.guard = some false) (k : WL P n w0 L0 all rest ((d, false, v) :: E) L Q) : WL P n w0 L0 all (o :: rest) E L Q := by
  intro a w ha hw
  have h1 := gd_wanted ha hg
  have hlt : d < n := by simpa using hn
  have := k _ w (ha.put (G := false) (v := v) hlt) hw
  unfold wpList
  rw [if_neg (by rw [h1]; decide), hd]
  exact this
theorem CW.permH {P : Program} {n : Nat} {w0 : World} {L0 L L' : Heap} {c : Code} {E : Env} {Q : Post} (hp : L.Perm L') (h : CW P n w0 L0 c E L' Q) : CW P n w0 L0 c E L Q := fun a w ha hw => h a w ha (hw.perm hp.symm)
theorem In.upd {w w' : World} {L L0 : Heap} {a : Option Addr} {cs : List Value} (h : In w a cs) (hw : Upd w [] w' L) : In w' a cs := (h.lies.step hw (List.nil_sublist _)).in
theorem cell_at {w : World} {b i : Nat} {cs : List Value} {v : Value} (h : In w (some ⟨b, 0, none⟩) cs) (hi : cs[i]? = some v) : In w (some ⟨b, i, none⟩) [v] := by
  rcases h with h | ⟨b', o, arr, U, fz, he, hb, hc⟩
  · subst h; cases hi
  · cases he
    refine .inr ⟨b, i, arr, U, fz, rfl, hb, fun k hk => ?_⟩
    have hk0 : k = 0 := by simpa using hk
    subst hk0
    have := hc i (List.getElem?_eq_some_iff.1 hi).1
    simp only [Nat.zero_add] at this
    simpa [hi] using this
theorem cells_at {w : World} {L : Heap} {b i : Nat} {cs : List Value} {v : Value} (h : In w (some ⟨b, 0, none⟩) cs) (hi : cs[i]? = some v) : Cell w [] L ⟨b, i, none⟩ v := ⟨fun w' hw => ((cell_at h hi).lies.step hw (List.nil_sublist _)).in⟩
theorem in_blk {w0 w : World} {L0 L : Heap} {b : Nat} {cs : List Value} {U : TypeId} (hw : Upd w0 L0 w L) [h1 : Blk L b (.cells cs.toArray U (0, 0))] : In w (some ⟨b, 0, none⟩) cs :=
  .inr ⟨b, 0, cs.toArray, U, (0, 0), rfl, hw.has _ h1.h, fun k hk => by simp⟩
/-- a struct's cells that can be read, whatever else goes on -/
class Cells (w0 : World) (L0 L : Heap) (q : Addr) (m : outParam Nat) (vs : outParam (List Value)) : Prop where
  h : ∀ w, Upd w0 L0 w L → In w (some q) vs
  ln : vs.length = m
  pos : 0 < m
theorem O.ldsC {P : Program} {d n m : Nat} {w0 : World} {L0 L : Heap} {all : List Oper} {E : Env} {x : Operand} {T ty : TypeId} {pos : String} {aft : Array Edge} {g : Option (Nat × Bool)} {G : Bool} {q : Addr} {vs : List Value} [TAgg P T m] (hp : Pre n all E g d G := by exact ⟨rfl, rfl⟩) (hx : Val G E x (.pointer (some q)) := by first | exact vt rfl | exact vs rfl | exact vi rfl and1 | exact vi rfl (fun h => and1 (and1 h)) | exact vi rfl (by simp +contextual)) [c : Cells w0 L0 L q m vs] :
    QV P n w0 L0 all ⟨some d, .load T x, ty, pos, aft, g⟩ E L d G (.agg vs.toArray) :=
  O.val rfl hp (fun hG A w ha hw => by
    have hm := c.ln; have h0 := c.pos
    rcases c.h w hw with h | ⟨b, p, arr, U', fz, he, hb, hc⟩
    · rw [h] at hm; simp at hm; omega
    · cases he
      have hl : (loadCells ⟨b, p, none⟩ vs.length).run P w = .ok vs.toArray w := run_loadCells_list w _ vs (fun j v hv => by
        have hj := (List.getElem?_eq_some_iff.1 hv).1
        rw [Addr.add_at]
        unfold World.cell?
        simp [hb, hc j hj, hv])
      rw [hm] at hl
      have := TAgg.size (P := P) (T := T) (m := m)
      have h2 : (loadVar T ⟨b, p, none⟩).run P w = .ok (.agg vs.toArray) w := by simp [loadVar, Sem.run_bind, TAgg.run (T := T) w, TSize.run (T := T) w, hl]
      simp [execOp, Instr.loadAt, Instr.sureAddr, hx.eval hG ha, Sem.run_bind, h2])
/-- where a row that is not empty lies -/
theorem In.ptr {w : World} {p : Option Addr} {cs : List Value} (h : In w p cs) (hne : cs ≠ []) : ∃ b o, p = some ⟨b, o, none⟩ := by
  rcases h with h | ⟨b, o, arr, U, fz, he, _⟩
  · exact absurd h hne
  · exact ⟨b, o, he⟩
theorem cellO {w : World} {L : Heap} {b o i : Nat} {cs : List Value} {v : Value} (h : In w (some ⟨b, o, none⟩) cs) (hi : cs[i]? = some v) : Cell w [] L ⟨b, o + i, none⟩ v := ⟨fun w' hw => by
  rcases (h.upd (L0 := []) hw : In w' _ _) with h | ⟨b', o', arr, U, fz, he, hb, hc⟩
  · subst h; cases hi
  · cases he
    refine .inr ⟨b, o + i, arr, U, fz, rfl, hb, fun k hk => ?_⟩
    have hk0 : k = 0 := by simpa using hk
    subst hk0
    have := hc i (List.getElem?_eq_some_iff.1 hi).1
    simpa [hi] using this⟩
theorem In.adr {w : World} {p : Option Addr} {cs : List Value} (h : In w p cs) (hne : cs ≠ []) : ∃ q, p = some q := by
  obtain ⟨b, o, e⟩ := h.ptr hne; exact ⟨_, e⟩
theorem cellQ {w : World} {L : Heap} {q : Addr} {i : Nat} {cs : List Value} {v : Value} (h : In w (some q) cs) (hi : cs[i]? = some v) : Cell w [] L (q.add i) v := by
  obtain ⟨b, o, e⟩ := h.ptr (fun e => by rw [e] at hi; cases hi)
  obtain rfl := Option.some.inj e
  rw [Addr.add_at]; exact cellO h hi
theorem cellsO {w : World} {L : Heap} {q : Addr} {m : Nat} {cs : List Value} (h : In w (some q) cs) (hl : cs.length = m) (h0 : 0 < m) : Cells w [] L q m cs := ⟨fun w' hw => h.upd (L0 := []) hw, hl, h0⟩
end Go.Proofs.YtagiajnpnjakhaaDoor
