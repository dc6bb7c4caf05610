/- Rows that lie apart from a heaplet. No condition. -/
import Derived.Test.YtagiajnpnjakhaaDoorLaw0
set_option linter.unusedVariables false
set_option linter.unusedSimpArgs false
namespace Go.Proofs.YtagiajnpnjakhaaDoor
open Go Go.RowKit
/-- a row that lies apart from a heaplet -/
def Lies (w : World) (L0 : Heap) (a : Option Addr) (cs : List Value) : Prop :=
  cs = [] ∨ ∃ b o arr U fz, a = some ⟨b, o, none⟩ ∧ w.heap[b]? = some (.cells arr U fz) ∧ b ∉ L0.map Prod.fst ∧ ∀ k, k < cs.length → arr[o + k]? = cs[k]?
theorem In.lies {w : World} {a : Option Addr} {cs : List Value} (h : In w a cs) : Lies w [] a cs := by
  rcases h with h | ⟨b, o, arr, U, fz, ha, hb, hc⟩
  · exact .inl h
  · exact .inr ⟨b, o, arr, U, fz, ha, hb, by simp, hc⟩
theorem Lies.in {w : World} {L0 : Heap} {a : Option Addr} {cs : List Value} (h : Lies w L0 a cs) : In w a cs := by
  rcases h with h | ⟨b, o, arr, U, fz, ha, hb, hn, hc⟩
  · exact .inl h
  · exact .inr ⟨b, o, arr, U, fz, ha, hb, hc⟩
theorem Lies.rowE {w0 : World} {L0 : Heap} {a : Option Addr} {m : Nat} {α : Type} {dv : α} {enc : α → List Value} {xs : List α} [e : Enc enc m dv] (h : Lies w0 L0 a (xs.flatMap enc)) : Row w0 L0 a m α dv enc xs :=
  ⟨fun L w hw => by
    rcases h with h | ⟨b, q, arr, U, fz, ha, hb, hn, hc⟩
    · exact .inl h
    · exact .inr ⟨b, q, arr, U, fz, ha, by rw [hw.old b (Array.getElem?_eq_some_iff.1 hb).1 hn, hb], hc⟩, e.hm, e.pos⟩
theorem Lies.step {w0 w : World} {L0 L Lb : Heap} {a : Option Addr} {cs : List Value} (h : Lies w0 L0 a cs) (hw : Upd w0 L0 w L) (hs : Lb.Sublist L) : Lies w Lb a cs := by
  rcases h with h | ⟨b, o, arr, U, fz, ha, hb, hn, hc⟩
  · exact .inl h
  · have hlt := (Array.getElem?_eq_some_iff.1 hb).1
    refine .inr ⟨b, o, arr, U, fz, ha, by rw [hw.old b hlt hn, hb], ?_, hc⟩
    intro hm
    obtain ⟨p, hp, e⟩ := List.mem_map.1 hm
    rcases hw.own p (hs.subset hp) with h1 | h1
    · rw [e] at h1; exact hn h1
    · omega
theorem Lies.own {w0 w : World} {L0 L Lb Lr : Heap} {α : Type} {enc : α → List Value} {o : Option Nat} {U : TypeId} {xs : List α} {sp : List Value} [hn : NilOk o xs] (hw : Upd w0 L0 w (Lr ++ L)) (hr : (rowL o U (flat enc xs sp)).Sublist Lr) (hs : Lb.Sublist L) : Lies w Lb (oa o) (xs.flatMap enc) := by
  cases o with
  | none => rw [hn.h rfl]; exact .inl rfl
  | some b =>
    have hb : (b, Obj.cells (flat enc xs sp).toArray U (0, 0)) ∈ Lr := hr.subset (by simp [rowL])
    refine .inr ⟨b, 0, _, U, _, rfl, hw.has _ (List.mem_append_left _ hb), ?_, fun k hk => ?_⟩
    · intro hm
      have hnd := hw.nd
      rw [List.map_append, List.nodup_append] at hnd
      exact hnd.2.2 b (List.mem_map.2 ⟨_, hb, rfl⟩) b ((hs.map Prod.fst).subset hm) rfl
    · simp only [Nat.zero_add, List.getElem?_toArray, flat]
      exact List.getElem?_append_left hk
theorem O.extL {P : Program} {d n : Nat} {w0 : World} {L0 L : Heap} {all : List Oper} {E : Env} {x : Operand} {ty : TypeId} {pos : String} {aft : Array Edge} {g : Option (Nat × Bool)} {G : Bool} {l : List Value} {v : Value} {i : Nat} (hp : Pre n all E g d G := by exact ⟨rfl, rfl⟩) (hx : Val G E x (.tuple l.toArray) := by first | exact vt rfl | exact vs rfl | exact vi rfl and1 | exact vi rfl (fun h => and1 (and1 h)) | exact vi rfl (by simp +contextual)) (hi : l[i]? = some v := by rfl) : QV P n w0 L0 all ⟨some d, .extract x i, ty, pos, aft, g⟩ E L d G v :=
  O.ext hp hx (by simpa using hi)
instance (priority := 100000) Seg.all' {L : Heap} : Seg L L (fun X => X) := Seg.all
instance (priority := low) Cut.appl {L L' M : Heap} {o : Option Nat} {U : TypeId} {cs : List Value} [h : Cut L o U cs L'] : Cut (L ++ M) o U cs (L' ++ M) := ⟨by
  have := List.Perm.append_right M h.h
  rwa [List.append_assoc] at this⟩
end Go.Proofs.YtagiajnpnjakhaaDoor
