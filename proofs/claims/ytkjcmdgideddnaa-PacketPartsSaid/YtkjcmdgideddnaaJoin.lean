/- strings.Join, with what it needs of a builder that grows. Conditions: the texts are not longer than some 2^46 bytes; the text between them is one byte. -/
import Derived.Test.YtkjcmdgideddnaaCv
import Derived.Laws.IdiomCopy
import Derived.Lib.MakeNoZero
set_option linter.unusedVariables false
set_option linter.unusedSimpArgs false
namespace Go.Proofs.Ytkjcmdgideddnaa
open Go Go.RowKit
theorem In.drop {w : World} {a : Option Addr} {α : Type} {enc : α → List Value} {m : Nat} {xs : List α} (h : In w a (xs.flatMap enc)) (hm : ∀ x, (enc x).length = m) (k : Nat) (hk : k ≤ xs.length) : In w (elt a m k 0) ((xs.drop k).flatMap enc) := by
  have hl : ∀ l : List α, (l.flatMap enc).length = l.length * m := fun l => by
    induction l with
    | nil => simp
    | cons x r ih => rw [List.flatMap_cons, List.length_append, hm, ih, List.length_cons, Nat.add_mul]; omega
  have e : xs.flatMap enc = (xs.take k).flatMap enc ++ (xs.drop k).flatMap enc := by rw [← List.flatMap_append, List.take_append_drop]
  rcases h with h | ⟨b, o, arr, U, fz, rfl, hb, hc⟩
  · refine .inl ?_
    rw [e] at h
    exact (List.append_eq_nil_iff.1 h).2
  · refine .inr ⟨b, o + (k * m + 0), arr, U, fz, rfl, hb, fun j hj => ?_⟩
    have h1 : ((xs.take k).flatMap enc).length = k * m := by rw [hl, List.length_take, Nat.min_eq_left hk]
    have := hc (k * m + j) (by rw [e, List.length_append, h1]; omega)
    rw [show o + (k * m + 0) + j = o + (k * m + j) by omega, this, e, List.getElem?_append_right (by omega), h1]
    congr 1; omega
section
variable {P : Program} {ρ : Operand → Value} {D : Option Tmp} {d n : Nat} {w0 w : World} {L0 L L' : Heap} {all rest : List Oper} {E : Env} {Q : Post} {x y z : Operand} {T T' U ty : TypeId} {pos : String} {aft : Array Edge} {g : Option (Nat × Bool)} {G : Bool}
theorem r_capL {a : Option Addr} {m c : Nat} {u : TypeId} (hx : ρ x = .slice a m c) (hT : P.underlying T = some (.slice u)) : (execOp ρ ⟨D, .call ⟨.builtin .cap, #[x], #[T]⟩, ty, pos, aft, g⟩).run P w = .ok (.value (.int .i64 c)) w := by
  simp [execOp, hx, go_sem, hT]
theorem O.capL {q : Option Addr} {m c : Nat} {u : TypeId} [TSlice P T u] (hp : Pre n all E g d G := by exact ⟨rfl, rfl⟩) (hx : Val G E x (.slice q m c) := by first | exact vt rfl | exact vs rfl) : QV P n w0 L0 all ⟨some d, .call ⟨.builtin .cap, #[x], #[T]⟩, ty, pos, aft, g⟩ E L d G (.int .i64 c) :=
  O.val rfl hp (fun hG a w ha hw => by rw [r_capL (hx.eval hG ha) (TSlice.h)])
/-- 'copy' of nothing -/
theorem O.cp0 {a q : Option Addr} {m c c' : Nat} [hT : TSlice P T U] [hS : TSize P U 1] (hp : Pre n all E g d G := by exact ⟨rfl, rfl⟩) (hx : Val G E x (.slice q m c) := by first | exact vt rfl | exact vs rfl) (hy : Val G E y (.slice a 0 c') := by first | exact vt rfl | exact vs rfl) : QV P n w0 L0 all ⟨some d, .call ⟨.builtin .copy, #[x, y], #[T, T']⟩, ty, pos, aft, g⟩ E L d G (.int .i64 0) :=
  O.val rfl hp (fun hG A w ha hw => by
    have := run_copy_none (P := P) w T T' ty U q a m c 0 c' hT.h hS.h (by simp)
    simp [execOp, resolve, invoke, builtin, Sem.run_bind, hx.eval hG ha, hy.eval hG ha, this, goInt])
theorem r_slL {a : Option Addr} {len cap m : Nat} {j : Int} {k : IntKind} (hx : ρ x = .slice a len cap) (hz : ρ z = .int k j) [hT : TSlice P T U] [hU : TSize P U m] (h0 : 0 ≤ j) (h1 : j ≤ len) (h2 : len ≤ cap) (h3 : j < cap) :
    (execOp ρ ⟨D, .slice T x (some z) none none, ty, pos, aft, g⟩).run P w = .ok (.value (.slice (a.map (·.add (j.toNat * m))) (len - j.toNat) (cap - j.toNat))) w := by
  have e : cap - j.toNat ≠ 0 := by omega
  simp [execOp, go_sem, run_underlying hT.h, Instr.sliceAt, Instr.slice, Instr.sliceBounds, Instr.sliceBound, asIntOf, hx, hz, h0, h1, h2, TSize.run (T := U) w, Sem.run_bind]
  first | (intro h; omega) | skip
/-- a slice's end -/
theorem O.slL {α : Type} {a : Option Addr} {dv : α} {enc : α → List Value} {xs : List α} {len cap m : Nat} {j : Int} {k : IntKind} [hT : TSlice P T U] [hU : TSize P U m] (hp : Pre n all E g d G := by exact ⟨rfl, rfl⟩) (hx : Val G E x (.slice a len cap) := by first | exact vt rfl | exact vs rfl) (hz : Val G E z (.int k j) := by first | exact vt rfl | exact vs rfl) (h : G = true → 0 ≤ j ∧ j ≤ len ∧ len ≤ cap ∧ j < cap := by (intro _; omega)) [r : RowL w0 L0 L a m α dv enc xs] (hne : xs ≠ [] := by first | assumption | (intro e; simp [e] at *; done)) :
    QV P n w0 L0 all ⟨some d, .slice T x (some z) none none, ty, pos, aft, g⟩ E L d G (.slice (elt a m j.toNat 0) (len - j.toNat) (cap - j.toNat)) :=
  O.val rfl hp (fun hG A w ha hw => by
    have := r_slL (P := P) (T := T) (D := some d) (ty := ty) (pos := pos) (aft := aft) (g := g) (U := U) (m := m) (w := w) (hx.eval hG ha) (hz.eval hG ha) (h hG).1 (h hG).2.1 (h hG).2.2.1 (h hG).2.2.2
    rcases r.h w hw with h0 | ⟨b, o, arr, U2, fz, rfl, _⟩
    · cases xs with
      | nil => exact absurd rfl hne
      | cons x r' => have h1 := r.hm x; have h2 := r.pos; have := congrArg List.length h0; rw [List.flatMap_cons, List.length_append, h1, List.length_nil] at this; omega
    rw [this]; simp [elt, Addr.add_at])
theorem r_ext1 {f : FuncId} {v p : Value} {w' : World} {Ts : Array TypeId} (hz : ρ z = .func (.func f) #[] #[]) (hx : ρ x = p) (hc : (callFunc f #[p]).run P w = .ok (.value v) w') : (execOp ρ ⟨D, .call ⟨.value z, #[x], Ts⟩, ty, pos, aft, g⟩).run P w = .ok (.value v) w' := by
  simp [execOp, hz, hx, go_sem, hc]
/-- 'bytealg.MakeNoZero' -/
theorem W.mnz {f : FuncId} {fn : Func} {k : Int} {Ts ps : Array TypeId} {t : TypeId} [hts : TSlice P t U] (hn : Nat.blt d n = true) (hz : Val true E z (.func (.func f) #[] #[])) (hx : Val true E x (.int .i64 k)) (hk : 0 ≤ k ∧ k ≤ 140737488355328) (hf : P.funcs[f]? = some fn) (hname : (fn.name == "runtime.NumGoroutine") = false)
    (hb : fn.body.isNone = true) (hx2 : Extern.findNext fn = none) (he : Extern.find fn = some (Extern.BytealgMakeNoZero.makeNoZero ps #[t]))
    (kk : ∀ b c sp, k.toNat ≤ c → c ≤ maxLen → sp.length = c → WL P n w0 L0 all rest ((d, true, .slice (oa (some b)) k.toNat c) :: E) (rowL (some b) U (flat encB [] sp) ++ L) Q) : WL P n w0 L0 all (⟨some d, .call ⟨.value z, #[x], Ts⟩, ty, pos, aft, none⟩ :: rest) E L Q :=
  W.loud rfl rfl hn (R := fun v L2 => ∃ b c sp, k.toNat ≤ c ∧ c ≤ maxLen ∧ sp.length = c ∧ v = .slice (oa (some b)) k.toNat c ∧ L2 = rowL (some b) U (flat encB [] sp) ++ L) (fun A w ha hw => by
    obtain ⟨q, rfl⟩ := Int.eq_ofNat_of_zero_le hk.1
    have hq : q ≤ 140737488355328 := by have := hk.2; omega
    obtain ⟨cs, hrun, hle, hmax⟩ := Lib.run_makeNoZero (P := P) w ps t U hts.h q (by omega)
    have h := run_callFunc_extern hf hname hb hx2 he #[.int .i64 q] w
    rw [hrun] at h
    refine ⟨.slice (oa (some w.heap.size)) q cs.size, w.drew.drew.alloc (.cells cs U), rowL (some w.heap.size) U (flat encB [] cs.toList) ++ L, ?_, ?_, w.heap.size, cs.size, cs.toList, by simpa using hle, hmax (by unfold maxLen; omega), by simp, rfl, rfl⟩
    · exact r_ext1 (hz.eval rfl ha) (hx.eval rfl ha) h
    · have := ((hw.same (w' := w.drew.drew) rfl rfl rfl rfl).alloc (.cells cs U))
      simpa [rowL, flat] using this) (by
    rintro v L2 ⟨b, c, sp, h1, h2, h3, rfl, rfl⟩
    exact kk b c sp h1 h2 h3)
end
set_option maxRecDepth 100000 in
theorem bd_grow0 (b n : Nat) (w : World) (hL : Holds [BdO b (some ⟨b, 0, none⟩) (.slice none 0 0)] w) (h1 : 1 ≤ n) (hn : n ≤ 70368744177664) :
    Fn Try.prog 178 [.pointer (some ⟨b, 0, none⟩), .int .i64 n] w [BdO b (some ⟨b, 0, none⟩) (.slice none 0 0)] fun v' L' => Bd b [] L' := by
  refine Fn.enter Try.func178 rfl rfl rfl rfl hL ?_
  refine CW.seq ?_
  refine CW.drawHL rfl ?_
  refine RH.q 0 (fun _ _ _ h => h) rfl (by kernel_rfl) (by repeat (first | exact List.nil_sublist _ | exact List.Sublist.refl _ | exact List.sublist_append_left _ _ | exact List.sublist_append_right _ _ | apply List.Sublist.cons_cons | apply List.Sublist.cons)) (O.mv) ?_
  refine RH.q 1 (fun _ _ _ h => h) rfl (by kernel_rfl) (by repeat (first | exact List.nil_sublist _ | exact List.Sublist.refl _ | exact List.sublist_append_left _ _ | exact List.sublist_append_right _ _ | apply List.Sublist.cons_cons | apply List.Sublist.cons)) (O.nc) ?_
  first | refine RH.q 2 (fun _ _ _ h => h) rfl (by kernel_rfl) (by repeat (first | exact List.nil_sublist _ | exact List.Sublist.refl _ | exact List.sublist_append_left _ _ | exact List.sublist_append_right _ _ | apply List.Sublist.cons_cons | apply List.Sublist.cons)) (O.fb) ?_ | refine RH.q 2 (fun _ _ _ h => h) rfl (by kernel_rfl) (by repeat (first | exact List.nil_sublist _ | exact List.Sublist.refl _ | exact List.sublist_append_left _ _ | exact List.sublist_append_right _ _ | apply List.Sublist.cons_cons | apply List.Sublist.cons)) (O.fa) ?_
  refine RH.q 3 (fun _ _ _ h => h) rfl (by kernel_rfl) (by repeat (first | exact List.nil_sublist _ | exact List.Sublist.refl _ | exact List.sublist_append_left _ _ | exact List.sublist_append_right _ _ | apply List.Sublist.cons_cons | apply List.Sublist.cons)) (O.ld) ?_
  refine RH.q 4 (fun _ _ _ h => h) rfl (by kernel_rfl) (by repeat (first | exact List.nil_sublist _ | exact List.Sublist.refl _ | exact List.sublist_append_left _ _ | exact List.sublist_append_right _ _ | apply List.Sublist.cons_cons | apply List.Sublist.cons)) (O.capL) ?_
  first | refine RH.q 5 (fun _ _ _ h => h) rfl (by kernel_rfl) (by repeat (first | exact List.nil_sublist _ | exact List.Sublist.refl _ | exact List.sublist_append_left _ _ | exact List.sublist_append_right _ _ | apply List.Sublist.cons_cons | apply List.Sublist.cons)) (O.mulN) ?_ | refine RH.q 5 (fun _ _ _ h => h) rfl (by kernel_rfl) (by repeat (first | exact List.nil_sublist _ | exact List.Sublist.refl _ | exact List.sublist_append_left _ _ | exact List.sublist_append_right _ _ | apply List.Sublist.cons_cons | apply List.Sublist.cons)) (O.mul) ?_
  refine RH.q 6 (fun _ _ _ h => h) rfl (by kernel_rfl) (by repeat (first | exact List.nil_sublist _ | exact List.Sublist.refl _ | exact List.sublist_append_left _ _ | exact List.sublist_append_right _ _ | apply List.Sublist.cons_cons | apply List.Sublist.cons)) (O.mv) ?_
  first | refine RH.q 7 (fun _ _ _ h => h) rfl (by kernel_rfl) (by repeat (first | exact List.nil_sublist _ | exact List.Sublist.refl _ | exact List.sublist_append_left _ _ | exact List.sublist_append_right _ _ | apply List.Sublist.cons_cons | apply List.Sublist.cons)) (O.addN) ?_ | refine RH.q 7 (fun _ _ _ h => h) rfl (by kernel_rfl) (by repeat (first | exact List.nil_sublist _ | exact List.Sublist.refl _ | exact List.sublist_append_left _ _ | exact List.sublist_append_right _ _ | apply List.Sublist.cons_cons | apply List.Sublist.cons)) (O.add) ?_
  refine RH.q 9 (fun _ _ _ h => h) rfl (by kernel_rfl) (by repeat (first | exact List.nil_sublist _ | exact List.Sublist.refl _ | exact List.sublist_append_left _ _ | exact List.sublist_append_right _ _ | apply List.Sublist.cons_cons | apply List.Sublist.cons)) (O.mv) ?_
  refine RH.q 10 (fun _ _ _ h => h) rfl (by kernel_rfl) (by repeat (first | exact List.nil_sublist _ | exact List.Sublist.refl _ | exact List.sublist_append_left _ _ | exact List.sublist_append_right _ _ | apply List.Sublist.cons_cons | apply List.Sublist.cons)) (O.nc) ?_
  first | refine RH.q 11 (fun _ _ _ h => h) rfl (by kernel_rfl) (by repeat (first | exact List.nil_sublist _ | exact List.Sublist.refl _ | exact List.sublist_append_left _ _ | exact List.sublist_append_right _ _ | apply List.Sublist.cons_cons | apply List.Sublist.cons)) (O.fb) ?_ | refine RH.q 11 (fun _ _ _ h => h) rfl (by kernel_rfl) (by repeat (first | exact List.nil_sublist _ | exact List.Sublist.refl _ | exact List.sublist_append_left _ _ | exact List.sublist_append_right _ _ | apply List.Sublist.cons_cons | apply List.Sublist.cons)) (O.fa) ?_
  refine RH.q 12 (fun _ _ _ h => h) rfl (by kernel_rfl) (by repeat (first | exact List.nil_sublist _ | exact List.Sublist.refl _ | exact List.sublist_append_left _ _ | exact List.sublist_append_right _ _ | apply List.Sublist.cons_cons | apply List.Sublist.cons)) (O.ld) ?_
  refine RH.q 13 (fun _ _ _ h => h) rfl (by kernel_rfl) (by repeat (first | exact List.nil_sublist _ | exact List.Sublist.refl _ | exact List.sublist_append_left _ _ | exact List.sublist_append_right _ _ | apply List.Sublist.cons_cons | apply List.Sublist.cons)) (O.lenL) ?_
  refine RH.one (i := 8) (fun _ _ h => h) (by kernel_rfl) rfl ?_
  refine W.mnz (ps := #[3]) (t := 40) rfl (vt rfl) (vt rfl) (by omega) Try.func189 (by kernel_rfl) (by kernel_rfl) (by kernel_rfl) (by kernel_rfl) fun b1 c1 sp1 le1 lx1 ls1 => ?_
  refine WL.nilQn ⟨(by repeat (first | exact List.nil_sublist _ | exact List.Sublist.refl _ | exact List.sublist_append_left _ _ | exact List.sublist_append_right _ _ | apply List.Sublist.cons_cons | apply List.Sublist.cons)), ?_⟩
  refine RH.one (i := 14) (fun _ _ h => h) (by kernel_rfl) rfl ?_
  refine W.p O.slH ?_
  refine WL.nilQn ⟨(by repeat (first | exact List.nil_sublist _ | exact List.Sublist.refl _ | exact List.sublist_append_left _ _ | exact List.sublist_append_right _ _ | apply List.Sublist.cons_cons | apply List.Sublist.cons)), ?_⟩
  refine RH.q 15 (fun _ _ _ h => h) rfl (by kernel_rfl) (by repeat (first | exact List.nil_sublist _ | exact List.Sublist.refl _ | exact List.sublist_append_left _ _ | exact List.sublist_append_right _ _ | apply List.Sublist.cons_cons | apply List.Sublist.cons)) (O.as) ?_
  refine RH.done (by kernel_rfl) (Q.tn ?_)
  refine CW.seq ?_
  refine CW.region ?_
  refine W.p O.mv ?_
  refine W.p O.mv ?_
  refine W.p O.nc ?_
  first | refine W.p O.fb ?_ | refine W.p O.fa ?_
  refine W.p O.ld ?_
  refine W.p O.cp0 ?_
  refine WL.nil (Q.tn ?_)
  refine CW.region ?_
  refine W.p O.mv ?_
  refine W.p O.mv ?_
  refine W.p O.nc ?_
  first | refine W.p O.fb ?_ | refine W.p O.fa ?_
  first | refine W.st (vt rfl) (vt rfl) rfl ?_ | refine W.st (u := .slice _ _ _) (vt rfl) (vt rfl) rfl ?_
  refine WL.nil ?_
  refine ⟨_, _, RVs.nil, List.Sublist.refl _, ?_⟩
  exact ⟨_, some b1, c1, sp1, .inr rfl, ⟨by simp, by simp [ls1], by simp, lx1⟩, fun _ _ => by omega, rfl⟩
set_option maxRecDepth 100000 in
theorem bd_Grow0 (b n : Nat) (w : World) (hL : Holds [BdO b none (.slice none 0 0)] w) (hn : n ≤ 70368744177664) :
    Fn Try.prog 157 [.pointer (some ⟨b, 0, none⟩), .int .i64 n] w [BdO b none (.slice none 0 0)] fun v' L' => Bd b [] L' := by
  refine Fn.enter Try.func157 rfl rfl rfl rfl hL ?_
  refine CW.seq ?_
  refine CW.region ?_
  refine W.p O.mv ?_
  refine W.callS (first := []) (cap := []) _ rfl (vt rfl) (AV.cons (vt rfl) (AV.nil)) (fun w hu hh => bd_check b none none 0 0 w (.inl rfl) hh) ?_; rintro _ _ rfl
  refine WL.nil (Q.tn ?_)
  refine CW.seq ?_
  refine CW.seq ?_
  refine CW.region ?_
  refine W.p O.mv ?_
  refine W.p O.lss ?_
  refine WL.nil (Q.tn ?_)
  refine CW.cond (vt rfl) (fun hc1 => ?_) (fun hc1 => ?_)
  · exact absurd (of_decide_eq_true hc1) (by omega)
  try simp only [Bool.cond_true_left, Bool.cond_false_right, Bool.or_eq_true, Bool.or_eq_false_iff, Bool.and_eq_true, Bool.and_eq_false_iff, decide_eq_true_eq, decide_eq_false_iff_not, Bool.not_eq_true', Bool.not_eq_false'] at hc1
  refine CW.skip (Q.tn ?_)
  refine CW.seq ?_
  refine CW.draw 13 rfl (by kernel_rfl) ?_
  refine WQ.p O.mv ?_
  refine WQ.p O.nc ?_
  first | refine WQ.p O.fb ?_ | refine WQ.p O.fa ?_
  refine WQ.p O.ld ?_
  refine WQ.p O.capL ?_
  refine WQ.p O.mv ?_
  refine WQ.p O.nc ?_
  first | refine WQ.p O.fb ?_ | refine WQ.p O.fa ?_
  refine WQ.p O.ld ?_
  refine WQ.p O.lenL ?_
  first | refine WQ.p O.subN ?_ | refine WQ.p O.sub ?_
  refine WQ.p O.mv ?_
  refine WQ.p O.lss ?_
  refine WQ.nil ?_
  refine WL.nil (Q.tn ?_)
  refine CW.cond (vt rfl) (fun hc2 => ?_) (fun hc2 => ?_)
  · try simp only [Bool.cond_true_left, Bool.cond_false_right, Bool.or_eq_true, Bool.or_eq_false_iff, Bool.and_eq_true, Bool.and_eq_false_iff, decide_eq_true_eq, decide_eq_false_iff_not, Bool.not_eq_true', Bool.not_eq_false'] at hc2
    refine CW.region ?_
    refine W.p O.mv ?_
    refine W.p O.mv ?_
    refine W.callS (first := []) (cap := []) _ rfl (vt rfl) (AV.cons (vt rfl) (AV.cons (vt rfl) (AV.nil))) (fun w hu hh => bd_grow0 b n w hh (by omega) hn) ?_; rintro _ Lb hB
    refine WL.nil ?_
    refine ⟨_, _, RVs.nil, List.Sublist.refl _, ?_⟩
    first | (simpa using hB) | exact ⟨_, none, 0, [], .inr rfl, OwnOk.nil, by simp, rfl⟩
  try simp only [Bool.cond_true_left, Bool.cond_false_right, Bool.or_eq_true, Bool.or_eq_false_iff, Bool.and_eq_true, Bool.and_eq_false_iff, decide_eq_true_eq, decide_eq_false_iff_not, Bool.not_eq_true', Bool.not_eq_false'] at hc2
  refine CW.skip ?_
  refine ⟨_, _, RVs.nil, List.Sublist.refl _, ?_⟩
  first | (simpa using hB) | exact ⟨_, none, 0, [], .inr rfl, OwnOk.nil, by simp, rfl⟩
set_option maxRecDepth 100000 in
theorem st_Join1 (ls : List (List UInt8)) (q : UInt8) (a : Option Addr) (c : Nat) (w : World) (h : In w a (ls.flatMap encS)) (hc : ls.length ≤ c) (hn : ls.flatten.length + ls.length ≤ 70368744177664) :
    Fn Try.prog 110 [.slice a ls.length c, .string (S [q])] w [] fun v L' => v = .string (S (joinB q ls)) ∧ L' = [] := by
  have row := Row.ofE h
  have hz1 : ([] : List UInt8).length = 0 := rfl
  have hz2 : ([q] : List UInt8).length = 1 := rfl
  refine Fn.enter Try.func110 rfl rfl rfl rfl (Holds.nil w) ?_
  refine CW.seq ?_
  refine CW.region ?_
  refine W.p O.as ?_
  refine WL.nil (Q.tn ?_)
  refine CW.seq ?_
  refine CW.seq ?_
  refine CW.region ?_
  refine W.p O.mv ?_
  refine W.p O.lenL ?_
  refine WL.nil (Q.tn ?_)
  refine CW.block ?_
  refine CW.seq ?_
  refine CW.region ?_
  refine W.p O.eqI ?_
  refine W.p O.as ?_
  refine WL.nil (Q.tn ?_)
  refine CW.cond (vt rfl) (fun hc1 => ?_) (fun hc1 => ?_)
  · try simp only [Bool.cond_true_left, Bool.cond_false_right, Bool.or_eq_true, Bool.or_eq_false_iff, Bool.and_eq_true, Bool.and_eq_false_iff, decide_eq_true_eq, decide_eq_false_iff_not, Bool.not_eq_true', Bool.not_eq_false'] at hc1
    refine CW.seq ?_
    refine CW.region ?_
    refine W.p O.as ?_
    refine WL.nil (Q.tn ?_)
    refine CW.ret (Q.br (Q.tr ?_))
    refine ⟨_, [], (RVs.tmp rfl RVs.nil), List.nil_sublist _, ?_⟩
    refine ⟨?_, rfl⟩
    have : ls = [] := List.eq_nil_of_length_eq_zero (by omega)
    subst this; rfl
  try simp only [Bool.cond_true_left, Bool.cond_false_right, Bool.or_eq_true, Bool.or_eq_false_iff, Bool.and_eq_true, Bool.and_eq_false_iff, decide_eq_true_eq, decide_eq_false_iff_not, Bool.not_eq_true', Bool.not_eq_false'] at hc1
  refine CW.seq ?_
  refine CW.region ?_
  refine W.p O.eqI ?_
  refine W.p O.as ?_
  refine WL.nil (Q.tn ?_)
  refine CW.cond (vt rfl) (fun hc2 => ?_) (fun hc2 => ?_)
  · try simp only [Bool.cond_true_left, Bool.cond_false_right, Bool.or_eq_true, Bool.or_eq_false_iff, Bool.and_eq_true, Bool.and_eq_false_iff, decide_eq_true_eq, decide_eq_false_iff_not, Bool.not_eq_true', Bool.not_eq_false'] at hc2
    refine CW.seq ?_
    refine CW.region ?_
    refine W.p O.mv ?_
    refine W.p O.ixA ?_
    refine W.p O.ldE ?_
    refine W.p O.as ?_
    refine WL.nil (Q.tn ?_)
    refine CW.ret (Q.br (Q.tr ?_))
    refine ⟨_, [], (RVs.tmp rfl RVs.nil), List.nil_sublist _, ?_⟩
    refine ⟨?_, rfl⟩
    obtain ⟨l, rfl⟩ := List.length_eq_one_iff.1 (show ls.length = 1 by omega)
    simp [joinB, oneOr]
  try simp only [Bool.cond_true_left, Bool.cond_false_right, Bool.or_eq_true, Bool.or_eq_false_iff, Bool.and_eq_true, Bool.and_eq_false_iff, decide_eq_true_eq, decide_eq_false_iff_not, Bool.not_eq_true', Bool.not_eq_false'] at hc2
  have row2 := Row.ofE (In.drop (m := 1) h (fun _ => rfl) 1 (by omega))
  have hne : ls ≠ [] := by intro e; rw [e] at hc1; exact hc1 rfl
  refine CW.skip (Q.bn (Q.tn ?_))
  refine CW.seq ?_
  refine CW.region ?_
  refine W.p O.as ?_
  refine WL.nil (Q.tn ?_)
  refine CW.seq ?_
  refine CW.seq ?_
  refine CW.region ?_
  refine W.p O.mv ?_
  refine W.p O.len ?_
  refine W.p O.gtr ?_
  refine WL.nil (Q.tn ?_)
  refine CW.cond (vt rfl) (fun hc3 => ?_) (fun hc3 => ?_)
  · try simp only [Bool.cond_true_left, Bool.cond_false_right, Bool.or_eq_true, Bool.or_eq_false_iff, Bool.and_eq_true, Bool.and_eq_false_iff, decide_eq_true_eq, decide_eq_false_iff_not, Bool.not_eq_true', Bool.not_eq_false'] at hc3
    refine CW.seq ?_
    refine CW.seq ?_
    refine CW.region ?_
    refine W.p O.mv ?_
    refine W.p O.len ?_
    refine W.p O.mv ?_
    refine W.p O.lenL ?_
    first | refine W.p O.subN ?_ | refine W.p O.sub ?_
    first | refine W.p O.quoN ?_ | refine W.p O.quo ?_
    refine W.p O.geq ?_
    refine WL.nil (Q.tn ?_)
    refine CW.cond (vt rfl) (fun hc4 => ?_) (fun hc4 => ?_)
    · (exfalso; replace hc4 := of_decide_eq_true hc4; have h5 : (2 : Int) ≤ 9223372036854775807 / ((ls.length : Int) - 1) := (Int.le_ediv_iff_mul_le (by omega)).2 (by omega); omega)
    try simp only [Bool.cond_true_left, Bool.cond_false_right, Bool.or_eq_true, Bool.or_eq_false_iff, Bool.and_eq_true, Bool.and_eq_false_iff, decide_eq_true_eq, decide_eq_false_iff_not, Bool.not_eq_true', Bool.not_eq_false'] at hc4
    refine CW.skip (Q.tn ?_)
    refine CW.region ?_
    refine W.p O.mv ?_
    refine W.p O.mv ?_
    refine W.p O.len ?_
    refine W.p O.mv ?_
    refine W.p O.lenL ?_
    first | refine W.p O.subN ?_ | refine W.p O.sub ?_
    first | refine W.p O.mulN ?_ | refine W.p O.mul ?_
    first | refine W.p O.addN ?_ | refine W.p O.add ?_
    refine W.p O.as ?_
    refine WL.nil (Q.tn ?_)
    refine CW.seq ?_
    refine CW.seq ?_
    refine CW.region ?_
    refine W.p O.mv ?_
    refine W.p O.lenL ?_
    refine W.p O.mv ?_
    refine WL.nil (Q.tn ?_)
    refine CW.block ?_
    refine CW.loop (X := Int × Int) (fun ⟨i, k⟩ => [(0, true, .slice a ls.length c), (1, true, .string (S [q])), (5, true, .int .i64 k), (39, true, .slice a ls.length c), (40, true, .int .i64 ls.length), (41, true, .int .i64 i)]) (fun ⟨i, k⟩ => []) (fun ⟨i, k⟩ => 0 ≤ i ∧ i ≤ ls.length ∧ k = (ls.length : Int) - 1 + (ls.take i.toNat).flatten.length) (fun ⟨i, k⟩ => (ls.length - i).toNat) (0, _) ?_ (by repeat (first | exact trivial | refine ⟨rfl, ?_⟩ | refine ⟨by (simp only [List.length_set]; rfl), ?_⟩)) (by repeat (first | exact List.Sublist.refl _ | exact List.sublist_append_left _ _ | exact List.nil_sublist _ | refine List.Sublist.append (List.Sublist.refl _) ?_ | apply List.Sublist.cons_cons | apply List.Sublist.cons | refine List.Sublist.trans ?_ (List.sublist_append_right _ _))) ?_
    · refine ⟨by omega, by omega, ?_⟩
      simp only [hz2, Int.toNat_zero, List.take_zero, List.flatten_nil, List.length_nil]
      rw [wrap_in _ (by rw [wrap_in _ (by omega)]; omega), wrap_in _ (by omega)]; omega
    rintro ⟨i, k⟩ hI
    try dsimp only at hI ⊢
    obtain ⟨h0, h1, hk⟩ := hI
    have hft := flat_take ls i.toNat
    have hfg := flat_getD ls i.toNat
    refine CW.seq ?_
    refine CW.region ?_
    refine W.p O.lss ?_
    refine WL.nil (Q.tn ?_)
    refine CW.seq ?_
    refine CW.cond (vt rfl) (fun hc5 => ?_) (fun hc5 => ?_)
    · try simp only [Bool.cond_true_left, Bool.cond_false_right, Bool.or_eq_true, Bool.or_eq_false_iff, Bool.and_eq_true, Bool.and_eq_false_iff, decide_eq_true_eq, decide_eq_false_iff_not, Bool.not_eq_true', Bool.not_eq_false'] at hc5
      refine CW.skip (Q.tn ?_)
      refine CW.seq ?_
      refine CW.block ?_
      refine CW.seq ?_
      refine CW.region ?_
      refine W.p O.ixA ?_
      refine W.p O.ldE ?_
      refine W.p O.as ?_
      refine WL.nil (Q.tn ?_)
      refine CW.seq ?_
      refine CW.seq ?_
      refine CW.region ?_
      refine W.p O.mv ?_
      refine W.p O.len ?_
      refine W.p O.mv ?_
      first | refine W.p O.subN ?_ | refine W.p O.sub ?_
      refine W.p O.gtr ?_
      refine WL.nil (Q.tn ?_)
      refine CW.cond (vt rfl) (fun hc6 => ?_) (fun hc6 => ?_)
      · exact absurd (of_decide_eq_true hc6) (by omega)
      try simp only [Bool.cond_true_left, Bool.cond_false_right, Bool.or_eq_true, Bool.or_eq_false_iff, Bool.and_eq_true, Bool.and_eq_false_iff, decide_eq_true_eq, decide_eq_false_iff_not, Bool.not_eq_true', Bool.not_eq_false'] at hc6
      refine CW.skip (Q.tn ?_)
      refine CW.region ?_
      refine W.p O.mv ?_
      refine W.p O.mv ?_
      refine W.p O.len ?_
      first | refine W.p O.addN ?_ | refine W.p O.add ?_
      refine W.p O.as ?_
      refine WL.nil (Q.bn (Q.tn ?_))
      refine CW.region ?_
      first | refine W.p O.addN ?_ | refine W.p O.add ?_
      refine W.p O.mv ?_
      refine WL.nil (Q.tn ?_)
      refine ⟨(_, _), ?_, ?_, (by repeat (first | exact trivial | refine ⟨rfl, ?_⟩ | refine ⟨by (simp only [List.length_set]; rfl), ?_⟩)), (by repeat (first | exact List.Sublist.refl _ | exact List.sublist_append_left _ _ | exact List.nil_sublist _ | refine List.Sublist.append (List.Sublist.refl _) ?_ | apply List.Sublist.cons_cons | apply List.Sublist.cons | refine List.Sublist.trans ?_ (List.sublist_append_right _ _)))⟩
      · try dsimp only
        have := flat_step h0 hc5
        exact ⟨by omega, by omega, by omega⟩
      · try dsimp only
        omega
    try simp only [Bool.cond_true_left, Bool.cond_false_right, Bool.or_eq_true, Bool.or_eq_false_iff, Bool.and_eq_true, Bool.and_eq_false_iff, decide_eq_true_eq, decide_eq_false_iff_not, Bool.not_eq_true', Bool.not_eq_false'] at hc5
    refine CW.exit (Q.te (Q.te (Q.bx (Q.tn ?_))))
    refine CW.seq ?_
    refine CW.region ?_
    refine W.al rfl rfl fun b1 => ?_
    refine WL.nil (Q.tn ?_)
    refine CW.seq ?_
    refine CW.region ?_
    refine W.p O.mv ?_
    refine W.callS (first := []) (cap := []) _ rfl (vt rfl) (AV.cons (vt rfl) (AV.cons (vt rfl) (AV.nil))) (fun w hu hh => (by have := bd_Grow0 b1 k.toNat w hh (by omega); rwa [show ((k.toNat : Nat) : Int) = k by omega] at this)) ?_; rintro _ Lb0 hB0
    refine WL.nil (Q.tn ?_)
    refine CW.seq ?_
    refine CW.region ?_
    refine W.p O.mv ?_
    refine W.p O.ixA ?_
    refine W.p O.ldE ?_
    refine W.callS (first := []) (cap := []) _ rfl (vt rfl) (AV.cons (vt rfl) (AV.cons (vt rfl) (AV.nil))) (fun w hu hh => bd_str w hB0 hh (by have hf0 := flat_getD ls (0 : Int).toNat; rw [List.length_nil]; omega)) ?_; rintro _ Lb1 hB1
    refine WL.nil (Q.tn ?_)
    refine CW.seq ?_
    refine CW.seq ?_
    refine CW.region ?_
    refine W.p O.mv ?_
    refine W.p O.slL ?_
    refine W.p O.lenL ?_
    refine W.p O.mv ?_
    refine WL.nil (Q.tn ?_)
    refine CW.block ?_
    refine CW.loop (X := Int × Heap) (fun ⟨i, Lb⟩ => [(1, true, .string (S [q])), (8, true, .pointer (some ⟨b1, 0, none⟩)), (63, true, .slice (elt a 1 1 0) (ls.length - 1) (c - 1)), (64, true, .int .i64 ((ls.length - 1 : Nat) : Int)), (65, true, .int .i64 i)]) (fun ⟨i, Lb⟩ => Lb) (fun ⟨i, Lb⟩ => 0 ≤ i ∧ i ≤ (ls.length - 1 : Nat) ∧ Bd b1 (joinB q (ls.take (i.toNat + 1))) Lb) (fun ⟨i, Lb⟩ => ((ls.length - 1 : Nat) - i).toNat) (0, Lb1) ?_ (by repeat (first | exact trivial | refine ⟨rfl, ?_⟩ | refine ⟨by (simp only [List.length_set]; rfl), ?_⟩)) (by repeat (first | exact List.Sublist.refl _ | exact List.sublist_append_left _ _ | exact List.nil_sublist _ | refine List.Sublist.append (List.Sublist.refl _) ?_ | apply List.Sublist.cons_cons | apply List.Sublist.cons | refine List.Sublist.trans ?_ (List.sublist_append_right _ _))) ?_
    · refine ⟨by omega, by omega, ?_⟩
      have e : joinB q (ls.take ((0 : Int).toNat + 1)) = [] ++ ls.getD (0 : Int).toNat [] := by cases ls with | nil => exact absurd rfl hne | cons l r => simp [joinB]
      rw [e]; exact hB1
    rintro ⟨i, Lb⟩ hI
    try dsimp only at hI ⊢
    obtain ⟨h0, h1, hB⟩ := hI
    have hjl := joinB_len q (ls.take (i.toNat + 1))
    have hft := flat_take ls (i.toNat + 1)
    have hfg := flat_getD (ls.drop 1) i.toNat
    have hfd : (ls.drop 1).flatten.length ≤ ls.flatten.length := by cases ls with | nil => simp | cons l r => simp
    have htl : (ls.take (i.toNat + 1)).length ≤ ls.length := List.length_take_le' _ _
    have hdl : (ls.drop 1).length = ls.length - 1 := List.length_drop
    refine CW.seq ?_
    refine CW.region ?_
    refine W.p O.lss ?_
    refine WL.nil (Q.tn ?_)
    refine CW.seq ?_
    refine CW.cond (vt rfl) (fun hc7 => ?_) (fun hc7 => ?_)
    · try simp only [Bool.cond_true_left, Bool.cond_false_right, Bool.or_eq_true, Bool.or_eq_false_iff, Bool.and_eq_true, Bool.and_eq_false_iff, decide_eq_true_eq, decide_eq_false_iff_not, Bool.not_eq_true', Bool.not_eq_false'] at hc7
      refine CW.skip (Q.tn ?_)
      refine CW.seq ?_
      refine CW.block ?_
      refine CW.seq ?_
      refine CW.region ?_
      refine W.p O.ixA ?_
      refine W.p O.ldE ?_
      refine W.p O.as ?_
      refine WL.nil (Q.tn ?_)
      refine CW.seq ?_
      refine CW.region ?_
      refine W.p O.mv ?_
      refine W.callS (first := []) (cap := []) _ rfl (vt rfl) (AV.cons (vt rfl) (AV.cons (vt rfl) (AV.nil))) (fun w hu hh => bd_str w hB hh (by omega)) ?_; rintro _ Lb2 hB2
      refine WL.nil (Q.tn ?_)
      refine CW.region ?_
      refine W.p O.mv ?_
      refine W.callS (first := []) (cap := []) _ rfl (vt rfl) (AV.cons (vt rfl) (AV.cons (vt rfl) (AV.nil))) (fun w hu hh => bd_str w hB2 hh (by simp only [List.length_append]; omega)) ?_; rintro _ Lb3 hB3
      refine WL.nil (Q.bn (Q.tn ?_))
      refine CW.region ?_
      first | refine W.p O.addN ?_ | refine W.p O.add ?_
      refine W.p O.mv ?_
      refine WL.nil (Q.tn ?_)
      refine ⟨(_, Lb3), ?_, ?_, (by repeat (first | exact trivial | refine ⟨rfl, ?_⟩ | refine ⟨by (simp only [List.length_set]; rfl), ?_⟩)), (by repeat (first | exact List.Sublist.refl _ | exact List.sublist_append_left _ _ | exact List.nil_sublist _ | refine List.Sublist.append (List.Sublist.refl _) ?_ | apply List.Sublist.cons_cons | apply List.Sublist.cons | refine List.Sublist.trans ?_ (List.sublist_append_right _ _)))⟩
      · try dsimp only
        refine ⟨by omega, by omega, ?_⟩
        rw [show (i + 1).toNat + 1 = i.toNat + 2 by omega, joinB_step q (by omega)]
        exact hB3
      · try dsimp only
        omega
    try simp only [Bool.cond_true_left, Bool.cond_false_right, Bool.or_eq_true, Bool.or_eq_false_iff, Bool.and_eq_true, Bool.and_eq_false_iff, decide_eq_true_eq, decide_eq_false_iff_not, Bool.not_eq_true', Bool.not_eq_false'] at hc7
    refine CW.exit (Q.te (Q.te (Q.bx (Q.tn ?_))))
    refine CW.seq ?_
    refine CW.region ?_
    refine W.callS (first := []) (cap := []) _ rfl (vt rfl) (AV.cons (vt rfl) (AV.nil)) (fun w hu hh => bd_string w hB hh) ?_; rintro _ _ rfl
    refine W.p O.as ?_
    refine WL.nil (Q.tn ?_)
    refine CW.ret ?_
    refine ⟨_, [], (RVs.tmp rfl RVs.nil), List.nil_sublist _, ?_⟩
    refine ⟨?_, rfl⟩
    rw [show i.toNat + 1 = ls.length by omega, List.take_length]; rfl
  exact absurd (of_decide_eq_false hc3) (by omega)
end Go.Proofs.Ytkjcmdgideddnaa
