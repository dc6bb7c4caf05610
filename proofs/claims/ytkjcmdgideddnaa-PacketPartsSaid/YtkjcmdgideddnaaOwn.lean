/- Slices that are owned: append. No condition. -/
import Derived.Test.YtkjcmdgideddnaaSlices
import Derived.Laws.AppendOwn
set_option linter.unusedVariables false
set_option linter.unusedSimpArgs false
namespace Go.Proofs.Ytkjcmdgideddnaa
open Go Go.RowKit
def oa (o : Option Nat) : Option Addr := o.map fun b => ⟨b, 0, none⟩
def rowL (o : Option Nat) (U : TypeId) (cs : List Value) : Heap := match o with | none => [] | some b => [(b, .cells cs.toArray U (0, 0))]
/-- the row of an owned slice, set apart -/
class Cut (L : Heap) (o : Option Nat) (U : outParam TypeId) (cs : outParam (List Value)) (L' : outParam Heap) : Prop where h : L.Perm (rowL o U cs ++ L')
instance (priority := high) Cut.head {L : Heap} {o : Option Nat} {U : TypeId} {cs : List Value} : Cut (rowL o U cs ++ L) o U cs L := ⟨List.Perm.refl _⟩
instance (priority := high) Cut.one {o : Option Nat} {U : TypeId} {cs : List Value} : Cut (rowL o U cs) o U cs [] := ⟨by simp⟩
instance (priority := high) Cut.some {L : Heap} {b : Nat} {U : TypeId} {cs : List Value} : Cut ((b, .cells cs.toArray U (0, 0)) :: L) (some b) U cs L := ⟨List.Perm.refl _⟩
instance Cut.tail {L L' : Heap} {p : Nat × Obj} {o : Option Nat} {U : TypeId} {cs : List Value} [h : Cut L o U cs L'] : Cut (p :: L) o U cs (p :: L') := ⟨(List.Perm.cons p h.h).trans List.perm_middle.symm⟩
instance Cut.app {L L' M : Heap} {o : Option Nat} {U : TypeId} {cs : List Value} [h : Cut L o U cs L'] : Cut (M ++ L) o U cs (M ++ L') := ⟨by
  refine (List.Perm.append_left M h.h).trans ?_
  rw [← List.append_assoc, ← List.append_assoc]
  exact List.Perm.append_right L' List.perm_append_comm⟩
/-- the state of an owned slice: its capacity, its spare cells -/
def OwnOk (o : Option Nat) (c m n s : Nat) : Prop := (o = none → n = 0 ∧ c = 0 ∧ s = 0) ∧ n * m + s = c * m ∧ n ≤ c ∧ c ≤ maxLen
theorem OwnOk.nil {m : Nat} : OwnOk none 0 m 0 0 := ⟨fun _ => ⟨rfl, rfl, rfl⟩, by simp, by simp, by simp⟩
class TByt (P : Program) (T : TypeId) (k : outParam Nat) : Prop where
  h : (P.info? T).map (·.bytes) = some k
  pos : 0 < k
class EncOne {α : Type} (enc : α → List Value) : Prop where h : ∀ x, ∀ u ∈ enc x, u.oneCell' = true
instance : EncOne encS := ⟨fun x u hu => by simp at hu; subst hu; rfl⟩
instance : EncOne encI := ⟨fun x u hu => by simp at hu; subst hu; rfl⟩
section
variable {P : Program} {w0 w : World} {L0 L L' : Heap} {T U ty : TypeId} {α : Type} {enc : α → List Value} {dv : α} {m k : Nat} {z : Value}
theorem run_ap {o : Option Nat} {c c2 : Nat} {xs ys : List α} {sp : List Value} {a : Option Addr} [hT : TSlice P T U] [hS : TSize P U m] [hZ : TZero P U z] [hB : TByt P U k] [he : Enc enc m dv] [h1 : EncOne enc] (hz : z.cells.size = m)
    (hw : Upd w0 L0 w (rowL o U (flat enc xs sp) ++ L')) (hk : OwnOk o c m xs.length sp.length) (hy : In w a (ys.flatMap enc)) (hb : (xs.length + ys.length) * k ≤ 140737488355328) :
    ∃ o' c' sp' w', (Builtin.append_ #[T, T] ty #[.slice (oa o) xs.length c, .slice a ys.length c2]).run P w = .ok (.slice (oa o') (xs ++ ys).length c') w' ∧ OwnOk o' c' m (xs ++ ys).length (List.length sp') ∧ Upd w0 L0 w' (rowL o' U (flat enc (xs ++ ys) sp') ++ L') ∧ (ys ≠ [] → ∃ b, o' = some b) ∧ ((∀ b, o = some b → 0 < c) → ∀ b, o' = some b → 0 < c') := by
  have hn1 : xs.length + ys.length ≤ 140737488355328 := Nat.le_trans (Nat.le_mul_of_pos_right _ hB.pos) hb
  have hi := hS.h; have hzz := hZ.h; have hbb := hB.h
  cases hu : P.info? U with
  | none => simp [hu] at hi
  | some i =>
  simp only [hu, Option.map_some, Option.some.injEq, Option.bind_some] at hi hzz hbb
  subst hi; subst hbb
  have fl : ∀ l : List α, (l.flatMap enc).length = l.length * i.size := by
    intro l
    induction l with
    | nil => simp
    | cons y l ih => simp only [List.flatMap_cons, List.length_append, he.hm, ih, List.length_cons, Nat.add_mul]; omega
  cases ys with
  | nil =>
    refine ⟨o, c, sp, w, ?_, by simpa using hk, by simpa using hw, fun h => absurd rfl h, fun h => h⟩
    have hf : (Builtin.firstCells i.size 0 (.slice a 0 c2)).run P w = .ok #[] w := by
      cases a with
      | none => exact run_firstCells_none w _ _ _ _
      | some q => exact run_firstCells_some w i.size 0 q 0 c2 [] (by simp) (by simp)
    cases o with
    | none => simp [Builtin.append_, oa, run_underlying hT.h, sizeOf, typeInfo, hu, Builtin.lenOf, hk.2.2.1, hf]
    | some g => simp [Builtin.append_, oa, run_underlying hT.h, sizeOf, typeInfo, hu, Builtin.lenOf, hk.2.2.1, hf, storeCells]
  | cons y0 yr =>
    generalize hys : y0 :: yr = ys at *
    have hne : ys ≠ [] := by rw [← hys]; simp
    have hyl : 0 < ys.length := by rw [← hys]; simp
    have hnewl := fl ys
    obtain ⟨b2, o2, arr, U2, fz2, rfl, hb2, hc2⟩ : ∃ b o arr U fz, a = some ⟨b, o, none⟩ ∧ w.heap[b]? = some (.cells arr U fz) ∧ ∀ k, k < (ys.flatMap enc).length → arr[o + k]? = (ys.flatMap enc)[k]? := by
      rcases hy with h | h
      · have := hnewl; rw [h] at this
        have : 0 < ys.length * i.size := Nat.mul_pos hyl he.pos
        simp at *; omega
      · exact h
    have hnews : ∀ j v, (ys.flatMap enc)[j]? = some v → w.cell? ((⟨b2, o2, none⟩ : Addr).add j) = some v := fun j v hv => by
      have hj := (List.getElem?_eq_some_iff.1 hv).1
      rw [Addr.add_at]
      unfold World.cell?
      simp [hb2, hc2 j hj, hv]
    have hone : ∀ u ∈ ys.flatMap enc, u.oneCell' = true := fun u hu => by
      obtain ⟨x, _, hx⟩ := List.mem_flatMap.1 hu
      exact h1.h x u hx
    have hfl : (xs ++ ys).flatMap enc = xs.flatMap enc ++ ys.flatMap enc := List.flatMap_append
    have hmax : xs.length + ys.length ≤ maxLen := by simp only [maxLen]; omega
    have hlen' : (xs ++ ys).length = xs.length + ys.length := List.length_append
    cases o with
    | none =>
      obtain ⟨hx0, rfl, hs0⟩ := hk.1 rfl
      have hx : xs = [] := List.eq_nil_of_length_eq_zero hx0
      have hs : sp = [] := List.eq_nil_of_length_eq_zero hs0
      subst hx; subst hs
      have hr := run_append_nil (P := P) w T ty U i z hT.h hu hzz ⟨b2, o2, none⟩ ys.length c2 _ hnewl hnews hyl (by omega) (by simp at hb; omega)
      refine ⟨some w.heap.size, _, (Builtin.zeroCells z.cells (grownCap w ys.length 0 U - ys.length)).toList, _, hr, ?_, ?_, fun _ => ⟨_, rfl⟩, fun _ _ _ => by have hge := grownCap_ge w ys.length 0 U; omega⟩
      · have hge := grownCap_ge w ys.length 0 U
        refine ⟨by simp, ?_, by simpa using hge, grownCap_le_maxLen w _ 0 U (by simpa using hmax)⟩
        simp only [List.nil_append, Array.length_toList, size_zeroCells, hz, ← Nat.add_mul]
        congr 1; omega
      · have h2 := ((hw.sub (List.sublist_append_right _ _)).same (w' := w.drew) rfl rfl rfl rfl).alloc (.cells ((ys.flatMap enc).toArray ++ Builtin.zeroCells z.cells (grownCap w ys.length 0 U - ys.length)) U)
        have e : ((ys.flatMap enc).toArray ++ Builtin.zeroCells z.cells (grownCap w ys.length 0 U - ys.length)) = (flat enc ([] ++ ys) (Builtin.zeroCells z.cells (grownCap w ys.length 0 U - ys.length)).toList).toArray := by
          apply Array.ext'; simp [flat]
        rw [e] at h2 ⊢
        exact h2
    | some g =>
      have hg : w.heap[g]? = some (.cells (flat enc xs sp).toArray U (0, 0)) := hw.has (g, .cells (flat enc xs sp).toArray U (0, 0)) (by simp [rowL])
      by_cases hroom : xs.length + ys.length ≤ c
      · have hcs : (flat enc xs sp).length = c * i.size := by rw [flat, List.length_append, fl]; exact hk.2.1
        have hfit : xs.length * i.size + (ys.flatMap enc).length ≤ (flat enc xs sp).toArray.size := by
          rw [hnewl, List.size_toArray, hcs, ← Nat.add_mul]; exact Nat.mul_le_mul_right _ hroom
        have hr := run_append_room (P := P) w T ty U i hT.h hu g xs.length c _ hg ⟨b2, o2, none⟩ ys.length c2 _ hnewl hnews hone hroom hfit
        have e : ((flat enc xs sp).toArray.toList.take (xs.length * i.size) ++ ys.flatMap enc ++ (flat enc xs sp).toArray.toList.drop (xs.length * i.size + (ys.flatMap enc).length)) = flat enc (xs ++ ys) (sp.drop (ys.length * i.size)) := by
          simp only [List.toList_toArray, flat, hfl, ← fl xs]
          rw [List.take_left, List.append_assoc, List.append_assoc]
          congr 2
          rw [List.drop_append, List.drop_eq_nil_of_le (by omega), List.nil_append]
          congr 1; rw [hnewl]; omega
        rw [e] at hr
        refine ⟨some g, c, sp.drop (ys.length * i.size), _, by rw [hlen']; exact hr, ?_, hw.setRow ⟨[], L', rfl, rfl⟩, fun _ => ⟨_, rfl⟩, fun _ _ _ => by omega⟩
        refine ⟨by simp, ?_, by omega, hk.2.2.2⟩
        have h3 := hk.2.1
        have h4 : (xs.length + ys.length) * i.size ≤ c * i.size := Nat.mul_le_mul_right _ hroom
        rw [hlen', List.length_drop]
        rw [Nat.add_mul] at h4 ⊢
        omega
      · have holds : ∀ j u, (xs.flatMap enc)[j]? = some u → w.cell? ((⟨g, 0, none⟩ : Addr).add j) = some u := fun j u hu' => by
          have hj := (List.getElem?_eq_some_iff.1 hu').1
          rw [Addr.add_at]
          unfold World.cell?
          simp only [hg, Option.isSome_none, Bool.false_eq_true, if_false, Nat.zero_add, List.getElem?_toArray, flat]
          rw [List.getElem?_append_left hj]; exact hu'
        have hr := run_append_grow (P := P) w T ty U i z hT.h hu hzz ⟨g, 0, none⟩ xs.length c _ (fl xs) holds ⟨b2, o2, none⟩ ys.length c2 _ hnewl hnews (by omega) (by omega) (growslice_fits (by omega) hb)
        refine ⟨some w.heap.size, _, (Builtin.zeroCells z.cells (grownCap w (xs.length + ys.length) c U - (xs.length + ys.length))).toList, _, by rw [hlen']; exact hr, ?_, ?_, fun _ => ⟨_, rfl⟩, fun _ _ _ => by have hge := grownCap_ge w (xs.length + ys.length) c U; omega⟩
        · have hge := grownCap_ge w (xs.length + ys.length) c U
          refine ⟨by simp, ?_, by rw [hlen']; exact hge, grownCap_le_maxLen w _ c U hmax⟩
          simp only [hlen', Array.length_toList, size_zeroCells, hz, ← Nat.add_mul]
          congr 1; omega
        · have h2 := ((hw.sub (List.sublist_append_right _ _)).same (w' := w.drew) rfl rfl rfl rfl).alloc (.cells ((xs.flatMap enc).toArray ++ (ys.flatMap enc).toArray ++ Builtin.zeroCells z.cells (grownCap w (xs.length + ys.length) c U - (xs.length + ys.length))) U)
          have e : ((xs.flatMap enc).toArray ++ (ys.flatMap enc).toArray ++ Builtin.zeroCells z.cells (grownCap w (xs.length + ys.length) c U - (xs.length + ys.length))) = (flat enc (xs ++ ys) (Builtin.zeroCells z.cells (grownCap w (xs.length + ys.length) c U - (xs.length + ys.length))).toList).toArray := by
            apply Array.ext'; simp [flat]
          rw [e] at h2 ⊢
          exact h2
variable {d n : Nat} {all rest : List Oper} {E : Env} {Q : Post} {x y : Operand} {pos : String} {aft : Array Edge}
theorem W.loud {o : Oper} (hd : o.dst = some d) (hg : o.guard = none) (hn : Nat.blt d n = true) {R : Value → Heap → Prop}
    (hr : ∀ a w, EnvOk n E a → Upd w0 L0 w L → ∃ v w' L', (execOp a.eval o).run P w = .ok (.value v) w' ∧ Upd w0 L0 w' L' ∧ R v L')
    (k : ∀ v L', R v L' → WL P n w0 L0 all rest ((d, true, v) :: E) L' Q) : WL P n w0 L0 all (o :: rest) E L Q := by
  intro a w ha hw
  have hlt : d < n := by simpa using hn
  refine wpList_plain hg fun K hK => ?_
  obtain ⟨v, w', L', h1, h2, h3⟩ := hr a w ha hw
  simp only [Oper.wp, h1, Oper.upon, hd]
  exact hK _ _ (k _ _ h3 _ _ (ha.put (G := true) hlt) h2)
/-- 'append', of an owned slice -/
theorem W.ap {o : Option Nat} {c c2 nx ny : Nat} {xs ys : List α} {sp : List Value} {a : Option Addr} [hT : TSlice P T U] [hS : TSize P U m] [hZ : TZero P U z] [hB : TByt P U k] [he : Enc enc m dv] [h1 : EncOne enc]
    (hn : Nat.blt d n = true) (hx : Val true E x (.slice (oa o) nx c)) (hy : Val true E y (.slice a ny c2)) (hnx : nx = xs.length) (hny : ny = ys.length) (hz : z.cells.size = m)
    [hc : Cut L o U (flat enc xs sp) L'] (hk : OwnOk o c m xs.length sp.length) [hr : RowL w0 L0 L a m α dv enc ys] (hb : (xs.length + ys.length) * k ≤ 140737488355328)
    (kk : ∀ o' c' sp', OwnOk o' c' m (xs ++ ys).length (List.length sp') → (ys ≠ [] → ∃ b, o' = some b) → ((∀ b, o = some b → 0 < c) → ∀ b, o' = some b → 0 < c') → WL P n w0 L0 all rest ((d, true, .slice (oa o') (xs ++ ys).length c') :: E) (rowL o' U (flat enc (xs ++ ys) sp') ++ L') Q) :
    WL P n w0 L0 all (⟨some d, .call ⟨.builtin .append, #[x, y], #[T, T]⟩, ty, pos, aft, none⟩ :: rest) E L Q :=
  W.loud rfl rfl hn (R := fun v L2 => ∃ o' c' sp', OwnOk o' c' m (xs ++ ys).length (List.length sp') ∧ (ys ≠ [] → ∃ b, o' = some b) ∧ ((∀ b, o = some b → 0 < c) → ∀ b, o' = some b → 0 < c') ∧ v = .slice (oa o') (xs ++ ys).length c' ∧ L2 = rowL o' U (flat enc (xs ++ ys) sp') ++ L') (fun A w ha hw => by
    have hy2 := hr.h w hw
    obtain ⟨o', c', sp', w', e1, e2, e3, e4, e5⟩ := run_ap (P := P) (T := T) (U := U) (k := k) (ty := ty) (c2 := c2) hz (hw.perm hc.h.symm) hk hy2 hb
    refine ⟨_, w', _, ?_, e3, o', c', sp', e2, e4, e5, rfl, rfl⟩
    subst hnx; subst hny
    simp [execOp, resolve, invoke, builtin, Sem.run_bind, hx.eval rfl ha, hy.eval rfl ha, e1]) (by
    rintro v L2 ⟨o', c', sp', e1, e2, e3, rfl, rfl⟩
    exact kk o' c' sp' e1 e2 e3)
/-- 'append' onto nothing -/
theorem W.apN {c2 ny : Nat} {ys : List α} {a : Option Addr} [hT : TSlice P T U] [hS : TSize P U m] [hZ : TZero P U z] [hB : TByt P U k]
    (hn : Nat.blt d n = true) (hx : Val true E x (.slice none 0 0)) (hy : Val true E y (.slice a ny c2)) [hr : RowL w0 L0 L a m α dv enc ys] [he : Enc enc m dv] [h1 : EncOne enc] (hny : ny = ys.length) (hz : z.cells.size = m) (hb : ys.length * k ≤ 140737488355328)
    (kk : ∀ o' c' sp', OwnOk o' c' m ys.length (List.length sp') → (ys ≠ [] → ∃ b, o' = some b) → (∀ b, o' = some b → 0 < c') → WL P n w0 L0 all rest ((d, true, .slice (oa o') ys.length c') :: E) (rowL o' U (flat enc ys sp') ++ L) Q) :
    WL P n w0 L0 all (⟨some d, .call ⟨.builtin .append, #[x, y], #[T, T]⟩, ty, pos, aft, none⟩ :: rest) E L Q := by
  haveI : Cut L none U (flat enc ([] : List α) []) L := ⟨List.Perm.refl _⟩
  refine W.ap (o := none) (c := 0) (xs := []) (ys := ys) (sp := []) (nx := 0) (k := k) hn hx hy rfl hny hz OwnOk.nil (by simpa using hb) ?_
  intro o' c' sp' h1 h2 h3
  have := kk o' c' sp' (by simpa using h1) h2 (h3 (by simp))
  simpa using this
/-- an element's cell is written -/
theorem flat_set (hm : ∀ x, (enc x).length = m) {u : Value} : ∀ (xs : List α) (sp : List Value) (j off : Nat) (x' : α), j < xs.length → off < m → (∀ x, xs[j]? = some x → enc x' = (enc x).set off u) → (flat enc xs sp).set (j * m + off) u = flat enc (xs.set j x') sp
  | [], sp, j, off, x', h, _, _ => by simp at h
  | x :: xs, sp, 0, off, x', _, ho, he => by
    have := he x rfl
    simp only [flat, List.flatMap_cons, Nat.zero_mul, Nat.zero_add, List.set_cons_zero, List.append_assoc]
    rw [List.set_append_left _ _ (by rw [hm]; exact ho), this]
  | x :: xs, sp, j + 1, off, x', h, ho, he => by
    have ih := flat_set hm xs sp j off x' (by simpa using h) ho he
    simp only [flat, List.flatMap_cons, List.set_cons_succ, List.append_assoc] at ih ⊢
    have e : (j + 1) * m + off = m + (j * m + off) := by rw [Nat.add_mul]; omega
    rw [e, List.set_append_right _ _ (by rw [hm]; omega), hm, show m + (j * m + off) - m = j * m + off by omega, ih]
end
class NilOk {α : Type} (o : Option Nat) (xs : List α) : Prop where h : o = none → xs = []
instance {α : Type} {b : Nat} {xs : List α} : NilOk (some b) xs := ⟨fun h => by simp at h⟩
theorem OwnOk.nk {α : Type} {o : Option Nat} {c m s : Nat} {xs : List α} (h : OwnOk o c m xs.length s) : NilOk o xs := ⟨fun e => List.eq_nil_of_length_eq_zero (h.1 e).1⟩
instance RowL.cut {w0 : World} {L0 L L' : Heap} {o : Option Nat} {m : Nat} {α : Type} {dv : α} {enc : α → List Value} {xs : List α} {sp : List Value} {U : TypeId} [hc : Cut L o U (flat enc xs sp) L'] [he : Enc enc m dv] [hn : NilOk o xs] : RowL w0 L0 L (oa o) m α dv enc xs :=
  ⟨fun w hw => by
    cases o with
    | none => rw [hn.h rfl]; exact .inl rfl
    | some b =>
      have h := (hw.perm hc.h.symm).has (b, .cells (flat enc xs sp).toArray U (0, 0)) (by simp [rowL])
      exact .inr ⟨b, 0, _, U, _, rfl, h, fun k hk => by
        simp only [Nat.zero_add, List.getElem?_toArray, flat]
        exact List.getElem?_append_left hk⟩, he.hm, he.pos⟩
instance : TByt Try.prog 42 24 := ⟨by kernel_rfl, by decide⟩
instance : TByt Try.prog 5 1 := ⟨by kernel_rfl, by decide⟩
instance : TByt Try.prog 22 24 := ⟨by kernel_rfl, by decide⟩
instance : TByt Try.prog 9 16 := ⟨by kernel_rfl, by decide⟩
instance : TByt Try.prog 3 8 := ⟨by kernel_rfl, by decide⟩
instance : TByt Try.prog 66 24 := ⟨by kernel_rfl, by decide⟩
instance : TByt Try.prog 51 24 := ⟨by kernel_rfl, by decide⟩
instance : TByt Try.prog 72 120 := ⟨by kernel_rfl, by decide⟩
instance : TByt Try.prog 96 80 := ⟨by kernel_rfl, by decide⟩
instance : TByt Try.prog 126 24 := ⟨by kernel_rfl, by decide⟩
instance : TByt Try.prog 111 144 := ⟨by kernel_rfl, by decide⟩
instance : TByt Try.prog 168 16 := ⟨by kernel_rfl, by decide⟩
instance : TByt Try.prog 105 24 := ⟨by kernel_rfl, by decide⟩
instance : TByt Try.prog 227 24 := ⟨by kernel_rfl, by decide⟩
end Go.Proofs.Ytkjcmdgideddnaa
