/- Calls, with a part of the heap that is the callee's. No condition. -/
import Derived.Test.YtkjcmdgideddnaaMaps
set_option linter.unusedVariables false
set_option linter.unusedSimpArgs false
namespace Go.Proofs.Ytkjcmdgideddnaa
open Go Go.RowKit
/-- where a part of a heap stands -/
class Seg (L Lf : Heap) (k : outParam (Heap → Heap)) : Prop where
  h : ∃ A B, L = A ++ (Lf ++ B) ∧ ∀ X, k X = A ++ (X ++ B)
instance (priority := high) Seg.all {L : Heap} : Seg L L (fun X => X) := ⟨[], [], by simp, fun X => by simp⟩
instance (priority := high) Seg.head {L M : Heap} : Seg (L ++ M) L (fun X => X ++ M) := ⟨[], M, by simp, fun X => by simp⟩
instance (priority := high) Seg.one {p : Nat × Obj} {M : Heap} : Seg (p :: M) [p] (fun X => X ++ M) := ⟨[], M, by simp, fun X => by simp⟩
instance Seg.tail {p : Nat × Obj} {L Lf : Heap} {k : Heap → Heap} [h : Seg L Lf k] : Seg (p :: L) Lf (fun X => p :: k X) := ⟨by
  obtain ⟨A, B, h1, h2⟩ := h.h; exact ⟨p :: A, B, by simp [h1], fun X => by simp [h2]⟩⟩
instance Seg.app {M L Lf : Heap} {k : Heap → Heap} [h : Seg L Lf k] : Seg (M ++ L) Lf (fun X => M ++ k X) := ⟨by
  obtain ⟨A, B, h1, h2⟩ := h.h; exact ⟨M ++ A, B, by simp [h1], fun X => by simp [h2]⟩⟩
instance Seg.appl {M L Lf : Heap} {k : Heap → Heap} [h : Seg M Lf k] : Seg (M ++ L) Lf (fun X => k X ++ L) := ⟨by
  obtain ⟨A, B, h1, h2⟩ := h.h; exact ⟨A, B ++ L, by simp [h1], fun X => by simp [h2]⟩⟩
theorem seg_perm (A B X : Heap) : (A ++ (X ++ B)).Perm (X ++ (A ++ B)) := by
  rw [← List.append_assoc, ← List.append_assoc]
  exact List.Perm.append_right B List.perm_append_comm
theorem WL.perm {P : Program} {n : Nat} {w0 : World} {L0 : Heap} {all c : List Oper} {E : Env} {L L' : Heap} {Q : Post} (hp : L.Perm L') (h : WL P n w0 L0 all c E L' Q) : WL P n w0 L0 all c E L Q :=
  fun a w ha hw => h a w ha (hw.perm hp.symm)
section
variable {P : Program} {n : Nat} {w0 : World} {L0 : Heap} {all rest : List Oper} {E : Env} {L : Heap} {Q : Post}
variable {d : Nat} {x : Operand} {ty : TypeId} {pos : String} {aft : Array Edge}
theorem W.callS {f : FuncId} {xs : List Operand} {us first cap : List Value} {Ts : Array TypeId} {R : Value → Heap → Prop} {kk : Heap → Heap} [ht : TBody P f] (Lf : Heap)
    (hn : Nat.blt d n = true) (hx : Val true E x (.func (.func f) first.toArray cap.toArray)) (hv : AV true E xs us) [hs : Seg L Lf kk]
    (hc : ∀ w, Upd w0 L0 w L → Holds Lf w → Fn P f (first ++ us ++ cap) w Lf R)
    (k : ∀ v L', R v L' → WL P n w0 L0 all rest ((d, true, v) :: E) (kk L') Q) : WL P n w0 L0 all (⟨some d, .call ⟨.value x, xs.toArray, Ts⟩, ty, pos, aft, none⟩ :: rest) E L Q := by
  obtain ⟨A, B, h1, h2⟩ := hs.h
  subst h1
  refine W.call Lf (A ++ B) hn hx hv (seg_perm A B Lf) hc fun v L' hR => WL.perm ?_ (k v L' hR)
  rw [h2]; exact (seg_perm A B L').symm
theorem W.callS0 {f : FuncId} {xs : List Operand} {us first cap : List Value} {Ts : Array TypeId} {R : Value → Heap → Prop} {kk : Heap → Heap} [ht : TBody P f] (Lf : Heap)
    (hx : Val true E x (.func (.func f) first.toArray cap.toArray)) (hv : AV true E xs us) [hs : Seg L Lf kk]
    (hc : ∀ w, Upd w0 L0 w L → Holds Lf w → Fn P f (first ++ us ++ cap) w Lf R)
    (k : ∀ v L', R v L' → WL P n w0 L0 all rest E (kk L') Q) : WL P n w0 L0 all (⟨none, .call ⟨.value x, xs.toArray, Ts⟩, ty, pos, aft, none⟩ :: rest) E L Q := by
  obtain ⟨A, B, h1, h2⟩ := hs.h
  subst h1
  refine W.call0 Lf (A ++ B) hx hv (seg_perm A B Lf) hc fun v L' hR => WL.perm ?_ (k v L' hR)
  rw [h2]; exact (seg_perm A B L').symm
/-- a call that is handed nothing of the heap -/
theorem W.callN {f : FuncId} {xs : List Operand} {us first cap : List Value} {Ts : Array TypeId} {R : Value → Heap → Prop} [ht : TBody P f]
    (hn : Nat.blt d n = true) (hx : Val true E x (.func (.func f) first.toArray cap.toArray)) (hv : AV true E xs us)
    (hc : ∀ w, Upd w0 L0 w L → Fn P f (first ++ us ++ cap) w [] R)
    (k : ∀ v L', R v L' → WL P n w0 L0 all rest ((d, true, v) :: E) (L' ++ L) Q) : WL P n w0 L0 all (⟨some d, .call ⟨.value x, xs.toArray, Ts⟩, ty, pos, aft, none⟩ :: rest) E L Q :=
  W.call [] L hn hx hv (List.Perm.refl _) (fun w hw _ => hc w hw) k
end
/-- a slice that is made anew -/
def Fresh {α : Type} (enc : α → List Value) (U : TypeId) (m : Nat) (xs : List α) (v : Value) (L : Heap) : Prop :=
  ∃ o c sp, v = .slice (oa o) xs.length c ∧ OwnOk o c m xs.length (List.length sp) ∧ L = rowL o U (flat enc xs sp)
/-- a row within an owned block -/
theorem In.cut {w0 w : World} {L0 L L' : Heap} {α : Type} {enc : α → List Value} {o : Option Nat} {U : TypeId} {xs : List α} {sp : List Value} (hw : Upd w0 L0 w L) [hc : Cut L o U (flat enc xs sp) L'] [hn : NilOk o xs] : In w (oa o) (xs.flatMap enc) := by
  cases o with
  | none => rw [hn.h rfl]; exact .inl rfl
  | some b =>
    have h := (hw.perm hc.h.symm).has (b, .cells (flat enc xs sp).toArray U (0, 0)) (by simp [rowL])
    exact .inr ⟨b, 0, _, U, _, rfl, h, fun k hk => by
      simp only [Nat.zero_add, List.getElem?_toArray, flat]
      exact List.getElem?_append_left hk⟩
theorem In.pre {w : World} {a : Option Addr} {xs ys : List Value} (h : In w a (xs ++ ys)) : In w a xs := by
  rcases h with h | ⟨b, o, arr, U, fz, h1, h2, h3⟩
  · exact .inl (List.append_eq_nil_iff.1 h).1
  · exact .inr ⟨b, o, arr, U, fz, h1, h2, fun k hk => by
      rw [h3 k (by simp; omega), List.getElem?_append_left hk]⟩
theorem In.nil {w : World} {a : Option Addr} : In w a [] := .inl rfl
end Go.Proofs.Ytkjcmdgideddnaa
