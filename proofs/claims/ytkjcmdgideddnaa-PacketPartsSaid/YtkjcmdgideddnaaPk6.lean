/- Packets compared and copied. Conditions: the rows are not longer than a thousand millions. -/
import Derived.Test.YtkjcmdgideddnaaPk5
set_option linter.unusedVariables false
set_option linter.unusedSimpArgs false
namespace Go.Proofs.Ytkjcmdgideddnaa
open Go Go.RowKit
set_option maxRecDepth 100000 in
theorem samePacket (p q : Pkt) (a b : Option Addr) (c c' : Nat) (w : World) (h : In w a (p.opts.flatMap encO)) (h' : In w b (q.opts.flatMap encO)) (hn : p.opts.length ≤ 1000000000) : Fn Try.prog 61 [vPk p a c, vPk q b c'] w [] fun v L' => v = .bool (decide (p = q)) ∧ L' = [] := by
  have row := Row.ofE h
  have row' := Row.ofE h'
  refine Fn.enter Try.func61 rfl rfl rfl rfl (Holds.nil w) ?_
  refine CW.seq ?_
  refine CW.region ?_
  refine W.bx rfl (vt rfl) rfl fun b1 => ?_
  refine W.bx rfl (vt rfl) rfl fun b2 => ?_
  refine W.p O.as ?_
  refine WL.nil (Q.tn ?_)
  refine CW.seq ?_
  refine CW.region ?_
  first | refine W.p O.fb ?_ | refine W.p O.fa ?_
  refine W.p O.ld ?_
  first | refine W.p O.fb ?_ | refine W.p O.fa ?_
  refine W.p O.ld ?_
  refine W.p O.eqI ?_
  refine W.p O.mv ?_
  first | refine W.p O.fb ?_ | refine W.p O.fa ?_
  refine W.p O.ld ?_
  first | refine W.p O.fb ?_ | refine W.p O.fa ?_
  refine W.p O.ld ?_
  refine W.p O.eqI ?_
  refine W.p O.pkB ?_
  refine W.p O.mv ?_
  first | refine W.p O.fb ?_ | refine W.p O.fa ?_
  refine W.p O.ld ?_
  first | refine W.p O.fb ?_ | refine W.p O.fa ?_
  refine W.p O.ld ?_
  refine W.p O.eqI ?_
  refine W.p O.pkB ?_
  refine W.p O.mv ?_
  first | refine W.p O.fb ?_ | refine W.p O.fa ?_
  refine W.p O.ld ?_
  first | refine W.p O.fb ?_ | refine W.p O.fa ?_
  refine W.p O.ld ?_
  refine W.p O.eqI ?_
  refine W.p O.pkB ?_
  refine W.p O.mv ?_
  first | refine W.p O.fb ?_ | refine W.p O.fa ?_
  refine W.p O.ld ?_
  first | refine W.p O.fb ?_ | refine W.p O.fa ?_
  refine W.p O.ld ?_
  refine W.p O.eqI ?_
  refine W.p O.pkB ?_
  refine W.p O.mv ?_
  first | refine W.p O.fb ?_ | refine W.p O.fa ?_
  refine W.p O.ld ?_
  first | refine W.p O.fb ?_ | refine W.p O.fa ?_
  refine W.p O.ld ?_
  refine W.p O.eqI ?_
  refine W.p O.pkB ?_
  refine W.p O.mv ?_
  first | refine W.p O.fb ?_ | refine W.p O.fa ?_
  refine W.p O.ld ?_
  first | refine W.p O.fb ?_ | refine W.p O.fa ?_
  refine W.p O.ld ?_
  refine W.p O.eqI ?_
  refine W.p O.pkB ?_
  refine W.p O.mv ?_
  first | refine W.p O.fb ?_ | refine W.p O.fa ?_
  refine W.p O.ld ?_
  first | refine W.p O.fb ?_ | refine W.p O.fa ?_
  refine W.p O.ld ?_
  refine W.p O.eqI ?_
  refine W.p O.pkB ?_
  refine W.p O.mv ?_
  first | refine W.p O.fb ?_ | refine W.p O.fa ?_
  refine W.p O.ld ?_
  first | refine W.p O.fb ?_ | refine W.p O.fa ?_
  refine W.p O.ld ?_
  refine W.p O.eqI ?_
  refine W.p O.pkB ?_
  refine W.p O.mv ?_
  first | refine W.p O.fb ?_ | refine W.p O.fa ?_
  refine W.p O.ld ?_
  first | refine W.p O.fb ?_ | refine W.p O.fa ?_
  refine W.p O.ld ?_
  refine W.p O.eqI ?_
  refine W.p O.pkB ?_
  refine W.p O.mv ?_
  first | refine W.p O.fb ?_ | refine W.p O.fa ?_
  refine W.p O.ld ?_
  first | refine W.p O.fb ?_ | refine W.p O.fa ?_
  refine W.p O.ld ?_
  refine W.p O.eqS ?_
  refine W.p O.pkB ?_
  refine W.p O.mv ?_
  first | refine W.p O.fb ?_ | refine W.p O.fa ?_
  refine W.p O.ld ?_
  first | refine W.p O.fb ?_ | refine W.p O.fa ?_
  refine W.p O.ld ?_
  refine W.q (O.call ⟨rfl, rfl⟩ (AV.cons (vs rfl) (AV.cons (vs rfl) (AV.nil))) (fun _ w hw => sameOptions _ _ _ _ _ _ w (row.h _ w hw) (row'.h _ w hw) hn)) ?_
  refine W.p O.pkB ?_
  refine W.p O.as ?_
  refine WL.nil (Q.tn ?_)
  refine CW.ret ?_
  refine ⟨_, [], (RVs.tmp rfl RVs.nil), List.nil_sublist _, ?_⟩
  refine ⟨congrArg Value.bool ?_, rfl⟩
  obtain ⟨a1, a2, a3, a4, a5, a6, a7, a8, a9, a10, a11, a12⟩ := p
  obtain ⟨b1, b2, b3, b4, b5, b6, b7, b8, b9, b10, b11, b12⟩ := q
  have hS : ∀ l : List UInt8, (S l).data.toList = l := fun _ => rfl
  rw [Bool.eq_iff_iff]
  simp [hS, and_assoc]
set_option maxRecDepth 100000 in
theorem copyPacket (p : Pkt) (a : Option Addr) (c : Nat) (w : World) (h : In w a (p.opts.flatMap encO)) (hn : p.opts.length ≤ 1000000000) : Fn Try.prog 56 [vPk p a c] w [] fun v L' => ∃ o c' sp, v = vPk p (oa o) c' ∧ OwnOk o c' 2 p.opts.length (List.length sp) ∧ L' = rowL o 42 (flat encO p.opts sp) := by
  have row := Row.ofE h
  refine Fn.enter Try.func56 rfl rfl rfl rfl (Holds.nil w) ?_
  refine CW.seq ?_
  refine CW.region ?_
  refine W.bx rfl (vt rfl) rfl fun b1 => ?_
  refine W.al rfl rfl fun b2 => ?_
  refine WL.nil (Q.tn ?_)
  refine CW.seq ?_
  refine CW.region ?_
  refine W.bs0 encO rfl fun b3 => ?_
  first | refine W.p O.fb ?_ | refine W.p O.fa ?_
  refine W.p O.ld ?_
  refine W.ap rfl (vt rfl) (vt rfl) (by first | rfl | omega) (by first | rfl | omega) rfl (by first | assumption | exact OwnOk.nil | exact OwnOk.lit) (by first | omega | (simp; omega)) fun o1 c1 sp1 ok1 ne1 gt1 => ?_
  have nk1 := ok1.nk; have le1 := ok1.2.2.1; try simp only [List.length_append, List.length_cons, List.length_nil] at le1
  first | refine W.p O.fb ?_ | refine W.p O.fa ?_
  first | refine W.st (vt rfl) (vt rfl) rfl ?_ | refine W.st (u := .slice _ _ _) (vt rfl) (vt rfl) rfl ?_
  refine WL.nil (Q.tn ?_)
  refine CW.seq ?_
  refine CW.region ?_
  refine W.p O.lds ?_
  refine W.st (vt rfl) (vt rfl) rfl ?_
  refine WL.nil (Q.tn ?_)
  refine CW.ret ?_
  refine ⟨_, rowL o1 42 (flat encO p.opts sp1), (RVs.cell rfl RVs.nil), (by repeat (first | exact List.Sublist.refl _ | exact hSub _ | exact List.sublist_append_left _ _ | exact List.nil_sublist _ | refine List.Sublist.append (List.Sublist.refl _) ?_ | apply List.Sublist.cons_cons | apply List.Sublist.cons | exact List.sublist_append_left _ _ | refine List.Sublist.trans ?_ (List.sublist_append_right _ _))), ?_⟩
  exact ⟨o1, c1, sp1, rfl, ok1, rfl⟩
end Go.Proofs.Ytkjcmdgideddnaa
