/- Bytes that are owned: append of a text; unsafe pointers, as strings.Builder has them. No condition. -/
import Derived.Test.YtkjcmdgideddnaaOwn
import Derived.Lib.AppendStr
import Derived.Lib.Builder
import Derived.Lib.UnsafeStr
import Derived.Laws.Externs
set_option linter.unusedVariables false
set_option linter.unusedSimpArgs false
namespace Go.Proofs.Ytkjcmdgideddnaa
open Go Go.RowKit
abbrev encB : UInt8 → List Value := fun b => [.int .u8 b.toNat]
instance : Enc encB 1 0 := ⟨fun _ => rfl, by decide⟩
instance : EncOne encB := ⟨fun x u hu => by simp at hu; subst hu; rfl⟩
theorem flat_bytes (l : List UInt8) : l.flatMap encB = l.map fun b => Value.int .u8 b.toNat := by
  induction l with
  | nil => rfl
  | cons x l ih => rw [List.flatMap_cons, List.map_cons, ih]; rfl
theorem strCells_S (s : List UInt8) : Lib.strCells (S s) = s.flatMap encB := by rw [flat_bytes]; rfl
theorem size_S (s : List UInt8) : (S s).size = s.length := rfl
section
variable {P : Program} {w0 w : World} {L0 L L' : Heap} {T T' U ty : TypeId}
theorem run_aps {o : Option Nat} {c : Nat} {xs s : List UInt8} {sp : List Value} [hT : TBytes P T U] [hT' : TStr P T']
    (hw : Upd w0 L0 w (rowL o U (flat encB xs sp) ++ L')) (hk : OwnOk o c 1 xs.length sp.length) (hb : xs.length + s.length ≤ 140737488355328) :
    ∃ o' c' sp' w', (Builtin.append_ #[T, T'] ty #[.slice (oa o) xs.length c, .string (S s)]).run P w = .ok (.slice (oa o') (xs ++ s).length c') w' ∧ OwnOk o' c' 1 (xs ++ s).length (List.length sp') ∧ Upd w0 L0 w' (rowL o' U (flat encB (xs ++ s) sp') ++ L') ∧ ((∀ b, o = some b → 0 < c) → ∀ b, o' = some b → 0 < c') := by
  have hi := hT.i
  cases hu : P.info? U with
  | none => simp [hu] at hi
  | some i =>
  simp only [hu, Option.map_some, Option.some.injEq, Prod.mk.injEq] at hi
  obtain ⟨hz, hsz, hby⟩ := hi
  have fl : ∀ l : List UInt8, (l.flatMap encB).length = l.length := fun l => by rw [flat_bytes, List.length_map]
  cases s with
  | nil =>
    refine ⟨o, c, sp, w, ?_, by simpa using hk, by simpa using hw, fun h => h⟩
    have hf := Lib.run_firstCells_string (P := P) w 1 (S [])
    simp only [size_S, List.length_nil] at hf
    cases o with
    | none => simp [Builtin.append_, oa, run_underlying hT.s, run_underlying hT'.h, sizeOf, typeInfo, hu, hsz, Builtin.lenOf, hk.2.2.1, hf, size_S]
    | some g => simp [Builtin.append_, oa, run_underlying hT.s, run_underlying hT'.h, sizeOf, typeInfo, hu, hsz, Builtin.lenOf, hk.2.2.1, hf, storeCells, size_S, Lib.strCells]
  | cons y0 yr =>
    generalize hys : y0 :: yr = ys at *
    have hyl : 0 < ys.length := by rw [← hys]; simp
    have hfl : (xs ++ ys).flatMap encB = xs.flatMap encB ++ ys.flatMap encB := List.flatMap_append
    have hmax : xs.length + ys.length ≤ maxLen := by simp only [maxLen]; omega
    have hlen' : (xs ++ ys).length = xs.length + ys.length := List.length_append
    have hmap : (S ys).data.map (fun b : UInt8 => Value.int .u8 b.toNat) = (ys.flatMap encB).toArray := by rw [flat_bytes]; simp
    cases o with
    | none =>
      obtain ⟨hx0, rfl, hs0⟩ := hk.1 rfl
      have hx : xs = [] := List.eq_nil_of_length_eq_zero hx0
      have hs : sp = [] := List.eq_nil_of_length_eq_zero hs0
      subst hx; subst hs
      have hr := run_append_nil_string (P := P) w T T' ty U i _ hT.s hT'.h hu hz (S ys) hyl (by simp only [size_S]; omega) (by simp only [size_S]; rw [hby]; simp at hb; omega)
      rw [hmap] at hr
      simp only [size_S] at hr
      refine ⟨some w.heap.size, _, (Builtin.zeroCells (Value.int .u8 0).cells (grownCap w ys.length 0 U - ys.length)).toList, _, hr, ?_, ?_, fun _ _ _ => by have hge := grownCap_ge w ys.length 0 U; omega⟩
      · have hge := grownCap_ge w ys.length 0 U
        refine ⟨by simp, ?_, by simpa using hge, grownCap_le_maxLen w _ 0 U (by simpa using hmax)⟩
        simp only [List.nil_append, Array.length_toList, size_zeroCells]
        show ys.length * 1 + (grownCap w ys.length 0 U - ys.length) * 1 = _
        omega
      · have h2 := ((hw.sub (List.sublist_append_right _ _)).same (w' := w.drew) rfl rfl rfl rfl).alloc (.cells ((ys.flatMap encB).toArray ++ Builtin.zeroCells (Value.int .u8 0).cells (grownCap w ys.length 0 U - ys.length)) U)
        have e : ((ys.flatMap encB).toArray ++ Builtin.zeroCells (Value.int .u8 0).cells (grownCap w ys.length 0 U - ys.length)) = (flat encB ([] ++ ys) (Builtin.zeroCells (Value.int .u8 0).cells (grownCap w ys.length 0 U - ys.length)).toList).toArray := by
          apply Array.ext'; simp [flat]
        rw [e] at h2 ⊢
        exact h2
    | some g =>
      have hg : w.heap[g]? = some (.cells (flat encB xs sp).toArray U (0, 0)) := hw.has (g, .cells (flat encB xs sp).toArray U (0, 0)) (by simp [rowL])
      by_cases hroom : xs.length + ys.length ≤ c
      · have hcs : (flat encB xs sp).length = c := by rw [flat, List.length_append, fl]; have := hk.2.1; omega
        have hr := Lib.run_append_room_string (P := P) w T T' ty U i hT.s hT'.h hu hsz g xs.length c _ hg (S ys) hroom (by rw [List.size_toArray, hcs]; exact hroom)
        have e : ((flat encB xs sp).toArray.toList.take xs.length ++ Lib.strCells (S ys) ++ (flat encB xs sp).toArray.toList.drop (xs.length + (S ys).size)) = flat encB (xs ++ ys) (sp.drop ys.length) := by
          rw [strCells_S, size_S]
          simp only [List.toList_toArray, flat, hfl]
          rw [← fl xs, List.take_left, List.append_assoc, List.append_assoc]
          congr 2
          rw [List.drop_append, List.drop_eq_nil_of_le (by omega), List.nil_append]
          congr 1; omega
        rw [e] at hr
        refine ⟨some g, c, sp.drop ys.length, _, by rw [hlen']; exact hr, ?_, hw.setRow ⟨[], L', rfl, rfl⟩, fun _ _ _ => by omega⟩
        refine ⟨by simp, ?_, by omega, hk.2.2.2⟩
        have h3 := hk.2.1
        rw [hlen', List.length_drop]
        omega
      · have holds : ∀ j u, (xs.flatMap encB)[j]? = some u → w.cell? ((⟨g, 0, none⟩ : Addr).add j) = some u := fun j u hu' => by
          have hj := (List.getElem?_eq_some_iff.1 hu').1
          rw [Addr.add_at]
          unfold World.cell?
          simp only [hg, Option.isSome_none, Bool.false_eq_true, if_false, Nat.zero_add, List.getElem?_toArray, flat]
          rw [List.getElem?_append_left hj]; exact hu'
        have hr := Lib.run_append_grow_string (P := P) w T T' ty U i _ hT.s hT'.h hu hz ⟨g, 0, none⟩ xs.length c _ (by rw [fl, hsz, Nat.mul_one]) holds (S ys) (by simp only [size_S]; omega) (by simp only [size_S]; omega) (by simp only [size_S]; exact growslice_fits (by omega) (by rw [hby]; omega))
        rw [strCells_S] at hr
        simp only [size_S] at hr
        refine ⟨some w.heap.size, _, (Builtin.zeroCells (Value.int .u8 0).cells (grownCap w (xs.length + ys.length) c U - (xs.length + ys.length))).toList, _, by rw [hlen']; exact hr, ?_, ?_, fun _ _ _ => by have hge := grownCap_ge w (xs.length + ys.length) c U; omega⟩
        · have hge := grownCap_ge w (xs.length + ys.length) c U
          refine ⟨by simp, ?_, by rw [hlen']; exact hge, grownCap_le_maxLen w _ c U hmax⟩
          simp only [hlen', Array.length_toList, size_zeroCells]
          show (xs.length + ys.length) * 1 + (grownCap w (xs.length + ys.length) c U - (xs.length + ys.length)) * 1 = _
          omega
        · have h2 := ((hw.sub (List.sublist_append_right _ _)).same (w' := w.drew) rfl rfl rfl rfl).alloc (.cells ((xs.flatMap encB).toArray ++ (ys.flatMap encB).toArray ++ Builtin.zeroCells (Value.int .u8 0).cells (grownCap w (xs.length + ys.length) c U - (xs.length + ys.length))) U)
          have e : ((xs.flatMap encB).toArray ++ (ys.flatMap encB).toArray ++ Builtin.zeroCells (Value.int .u8 0).cells (grownCap w (xs.length + ys.length) c U - (xs.length + ys.length))) = (flat encB (xs ++ ys) (Builtin.zeroCells (Value.int .u8 0).cells (grownCap w (xs.length + ys.length) c U - (xs.length + ys.length))).toList).toArray := by
            apply Array.ext'; simp [flat]
          rw [e] at h2 ⊢
          exact h2
variable {d n : Nat} {all rest : List Oper} {E : Env} {Q : Post} {x y : Operand} {pos : String} {aft : Array Edge}
/-- 'append(b, s...)' -/
theorem W.aps {o : Option Nat} {c nx : Nat} {xs s : List UInt8} {sp : List Value} [hT : TBytes P T U] [hT' : TStr P T']
    (hn : Nat.blt d n = true) (hx : Val true E x (.slice (oa o) nx c)) (hy : Val true E y (.string (S s))) (hnx : nx = xs.length)
    [hc : Cut L o U (flat encB xs sp) L'] (hk : OwnOk o c 1 xs.length sp.length) (hb : xs.length + s.length ≤ 140737488355328)
    (kk : ∀ o' c' sp', OwnOk o' c' 1 (xs ++ s).length (List.length sp') → ((∀ b, o = some b → 0 < c) → ∀ b, o' = some b → 0 < c') → WL P n w0 L0 all rest ((d, true, .slice (oa o') (xs ++ s).length c') :: E) (rowL o' U (flat encB (xs ++ s) sp') ++ L') Q) :
    WL P n w0 L0 all (⟨some d, .call ⟨.builtin .append, #[x, y], #[T, T']⟩, ty, pos, aft, none⟩ :: rest) E L Q :=
  W.loud rfl rfl hn (R := fun v L2 => ∃ o' c' sp', OwnOk o' c' 1 (xs ++ s).length (List.length sp') ∧ ((∀ b, o = some b → 0 < c) → ∀ b, o' = some b → 0 < c') ∧ v = .slice (oa o') (xs ++ s).length c' ∧ L2 = rowL o' U (flat encB (xs ++ s) sp') ++ L') (fun A w ha hw => by
    obtain ⟨o', c', sp', w', e1, e2, e3, e4⟩ := run_aps (P := P) (T := T) (T' := T') (U := U) (ty := ty) (s := s) (hw.perm hc.h.symm) hk hb
    refine ⟨_, w', _, ?_, e3, o', c', sp', e2, e4, rfl, rfl⟩
    subst hnx
    simp [execOp, resolve, invoke, builtin, Sem.run_bind, hx.eval rfl ha, hy.eval rfl ha, e1]) (by
    rintro v L2 ⟨o', c', sp', e1, e2, rfl, rfl⟩
    exact kk o' c' sp' e1 e2)
end
end Go.Proofs.Ytkjcmdgideddnaa
