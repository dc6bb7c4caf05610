/- Rows that lie apart from a heaplet. No condition. -/
import Derived.Test.YtkjcmdgideddnaaLaw0
set_option linter.unusedVariables false
set_option linter.unusedSimpArgs false
namespace Go.Proofs.Ytkjcmdgideddnaa
open Go Go.RowKit
/-- a row that lies apart from a heaplet -/
def Lies (w : World) (L0 : Heap) (a : Option Addr) (cs : List Value) : Prop :=
  cs = [] ∨ ∃ b o arr U fz, a = some ⟨b, o, none⟩ ∧ w.heap[b]? = some (.cells arr U fz) ∧ b ∉ L0.map Prod.fst ∧ ∀ k, k < cs.length → arr[o + k]? = cs[k]?
theorem In.lies {w : World} {a : Option Addr} {cs : List Value} (h : In w a cs) : Lies w [] a cs := by
  rcases h with h | ⟨b, o, arr, U, fz, ha, hb, hc⟩
  · exact .inl h
  · exact .inr ⟨b, o, arr, U, fz, ha, hb, by simp, hc⟩
theorem Lies.in {w : World} {L0 : Heap} {a : Option Addr} {cs : List Value} (h : Lies w L0 a cs) : In w a cs := by
  rcases h with h | ⟨b, o, arr, U, fz, ha, hb, hn, hc⟩
  · exact .inl h
  · exact .inr ⟨b, o, arr, U, fz, ha, hb, hc⟩
theorem Lies.rowE {w0 : World} {L0 : Heap} {a : Option Addr} {m : Nat} {α : Type} {dv : α} {enc : α → List Value} {xs : List α} [e : Enc enc m dv] (h : Lies w0 L0 a (xs.flatMap enc)) : Row w0 L0 a m α dv enc xs :=
  ⟨fun L w hw => by
    rcases h with h | ⟨b, q, arr, U, fz, ha, hb, hn, hc⟩
    · exact .inl h
    · exact .inr ⟨b, q, arr, U, fz, ha, by rw [hw.old b (Array.getElem?_eq_some_iff.1 hb).1 hn, hb], hc⟩, e.hm, e.pos⟩
theorem Lies.step {w0 w : World} {L0 L Lb : Heap} {a : Option Addr} {cs : List Value} (h : Lies w0 L0 a cs) (hw : Upd w0 L0 w L) (hs : Lb.Sublist L) : Lies w Lb a cs := by
  rcases h with h | ⟨b, o, arr, U, fz, ha, hb, hn, hc⟩
  · exact .inl h
  · have hlt := (Array.getElem?_eq_some_iff.1 hb).1
    refine .inr ⟨b, o, arr, U, fz, ha, by rw [hw.old b hlt hn, hb], ?_, hc⟩
    intro hm
    obtain ⟨p, hp, e⟩ := List.mem_map.1 hm
    rcases hw.own p (hs.subset hp) with h1 | h1
    · rw [e] at h1; exact hn h1
    · omega
theorem Lies.own {w0 w : World} {L0 L Lb Lr : Heap} {α : Type} {enc : α → List Value} {o : Option Nat} {U : TypeId} {xs : List α} {sp : List Value} [hn : NilOk o xs] (hw : Upd w0 L0 w (Lr ++ L)) (hr : (rowL o U (flat enc xs sp)).Sublist Lr) (hs : Lb.Sublist L) : Lies w Lb (oa o) (xs.flatMap enc) := by
  cases o with
  | none => rw [hn.h rfl]; exact .inl rfl
  | some b =>
    have hb : (b, Obj.cells (flat enc xs sp).toArray U (0, 0)) ∈ Lr := hr.subset (by simp [rowL])
    refine .inr ⟨b, 0, _, U, _, rfl, hw.has _ (List.mem_append_left _ hb), ?_, fun k hk => ?_⟩
    · intro hm
      have hnd := hw.nd
      rw [List.map_append, List.nodup_append] at hnd
      exact hnd.2.2 b (List.mem_map.2 ⟨_, hb, rfl⟩) b ((hs.map Prod.fst).subset hm) rfl
    · simp only [Nat.zero_add, List.getElem?_toArray, flat]
      exact List.getElem?_append_left hk
/-- a row as it was, or an owned one -/
def PRow (a : Option Addr) (c : Nat) (ks : List Kn) (Lr : Heap) (a' : Option Addr) (c' : Nat) (ks' : List Kn) : Prop :=
  (a' = a ∧ c' = c ∧ ks' = ks) ∨ ∃ o sp, a' = oa o ∧ OwnOk o c' 2 ks'.length (List.length sp) ∧ (rowL o 66 (flat encK ks' sp)).Sublist Lr
theorem PRow.lies {w0 w : World} {L0 L Lr : Heap} {a a' : Option Addr} {c c' : Nat} {ks ks' : List Kn} (hp : PRow a c ks Lr a' c' ks') (h0 : Lies w0 L0 a (ks.flatMap encK)) (hw : Upd w0 L0 w (Lr ++ L)) {Lb : Heap} (hs : Lb.Sublist L) : Lies w Lb a' (ks'.flatMap encK) := by
  rcases hp with ⟨rfl, rfl, rfl⟩ | ⟨o, sp, rfl, ok, hr⟩
  · exact h0.step hw (hs.trans (List.sublist_append_right _ _))
  · have := ok.nk (α := Kn) (xs := ks'); exact Lies.own hw hr hs
theorem PRow.same {a : Option Addr} {c : Nat} {ks : List Kn} {Lr : Heap} : PRow a c ks Lr a c ks := .inl ⟨rfl, rfl, rfl⟩
theorem PRow.trans {a a1 a2 : Option Addr} {c c1 c2 : Nat} {ks k1 k2 : List Kn} {L1 L2 : Heap} (h : PRow a c ks L1 a1 c1 k1) (h' : PRow a1 c1 k1 L2 a2 c2 k2) : PRow a c ks (L1 ++ L2) a2 c2 k2 := by
  rcases h' with ⟨rfl, rfl, rfl⟩ | ⟨o, sp, rfl, ok, hr⟩
  · rcases h with h | ⟨o, sp, rfl, ok, hr⟩
    · exact .inl h
    · exact .inr ⟨o, sp, rfl, ok, hr.trans (List.sublist_append_left _ _)⟩
  · exact .inr ⟨o, sp, rfl, ok, hr.trans (List.sublist_append_right _ _)⟩
theorem O.extL {P : Program} {d n : Nat} {w0 : World} {L0 L : Heap} {all : List Oper} {E : Env} {x : Operand} {ty : TypeId} {pos : String} {aft : Array Edge} {g : Option (Nat × Bool)} {G : Bool} {l : List Value} {v : Value} {i : Nat} (hp : Pre n all E g d G := by exact ⟨rfl, rfl⟩) (hx : Val G E x (.tuple l.toArray) := by first | exact vt rfl | exact vs rfl | exact vi rfl and1 | exact vi rfl (fun h => and1 (and1 h)) | exact vi rfl (by simp +contextual)) (hi : l[i]? = some v := by rfl) : QV P n w0 L0 all ⟨some d, .extract x i, ty, pos, aft, g⟩ E L d G v :=
  O.ext hp hx (by simpa using hi)
instance (priority := 100000) Seg.all' {L : Heap} : Seg L L (fun X => X) := Seg.all
end Go.Proofs.Ytkjcmdgideddnaa
