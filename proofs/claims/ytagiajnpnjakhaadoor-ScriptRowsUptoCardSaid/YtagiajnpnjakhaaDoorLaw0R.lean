/- What the helpers of the laws come to: records and questions that are copied, lent, compared, written over. Conditions: the rows are not longer than a thousand millions. -/
import Derived.Test.YtagiajnpnjakhaaDoorLaw0
set_option linter.unusedVariables false
set_option linter.unusedSimpArgs false
namespace Go.Proofs.YtagiajnpnjakhaaDoor
open Go Go.RowKit
abbrev mkRRs : RR := ⟨[], 0, 77777, 0, [], [], 0⟩
set_option maxRecDepth 100000 in
theorem sameRRs (xs ys : List RR) (a b : Option Addr) (c c' : Nat) (w : World) (h : In w a (xs.flatMap encR)) (h' : In w b (ys.flatMap encR)) (hn : xs.length ≤ 1000000000) : Fn Tryd.prog 18 [.slice a xs.length c, .slice b ys.length c'] w [] fun v L' => v = .bool (decide (xs = ys)) ∧ L' = [] := by
  have row := Row.ofE h
  have row' := Row.ofE h'
  refine Fn.enter Tryd.func18 rfl rfl rfl rfl (Holds.nil w) ?_
  refine CW.seq ?_
  refine CW.region ?_
  refine W.p O.as ?_
  refine WL.nil (Q.tn ?_)
  refine CW.seq ?_
  refine CW.seq ?_
  refine CW.region ?_
  refine W.p O.mv ?_
  refine W.p O.lenL ?_
  refine W.p O.mv ?_
  refine W.p O.lenL ?_
  refine W.p O.neI ?_
  refine WL.nil (Q.tn ?_)
  refine CW.cond (vt rfl) (fun hc1 => ?_) (fun hc1 => ?_)
  · try simp only [sk] at hc1
    refine CW.seq ?_
    refine CW.region ?_
    refine W.p O.as ?_
    refine WL.nil (Q.tn ?_)
    refine CW.ret (Q.tr ?_)
    refine ⟨_, [], (RVs.tmp rfl RVs.nil), List.nil_sublist _, ?_⟩
    refine ⟨congrArg Value.bool ?_, rfl⟩
    rw [eq_comm, decide_eq_false_iff_not]; intro e; subst e; exact hc1 rfl
  try simp only [sk] at hc1
  refine CW.skip (Q.tn ?_)
  refine CW.seq ?_
  refine CW.seq ?_
  refine CW.region ?_
  refine W.p O.as ?_
  refine WL.nil (Q.tn ?_)
  refine CW.block ?_
  refine CW.loopA (X := Int) (fun i => [(0, true, .slice a xs.length c), (1, true, .slice b ys.length c'), (5, true, .int .i64 i)]) (fun i => []) (fun i => 0 ≤ i ∧ i ≤ xs.length ∧ xs.take i.toNat = ys.take i.toNat) (fun i => (xs.length - i).toNat) (0) ?_ ?_
  · exact ⟨by omega, by omega, rfl⟩
  rintro i hI
  try dsimp only at hI ⊢
  obtain ⟨h0, h1, hr⟩ := hI
  refine CW.seq ?_
  refine CW.seq ?_
  refine CW.region ?_
  refine W.p O.mv ?_
  refine W.p O.mv ?_
  refine W.p O.lenL ?_
  refine W.p O.lss ?_
  refine WL.nil (Q.tn ?_)
  refine CW.cond (vt rfl) (fun hc2 => ?_) (fun hc2 => ?_)
  · try simp only [sk] at hc2
    refine CW.skip (Q.tn ?_)
    refine CW.seq ?_
    refine CW.block ?_
    refine CW.seq ?_
    refine CW.draw 9 rfl (by kernel_rfl) ?_
    refine WQ.p O.mv ?_
    refine WQ.p O.mv ?_
    refine WQ.p O.ixA ?_
    refine WQ.p O.ldsE ?_
    refine WQ.p O.mv ?_
    refine WQ.p O.mv ?_
    refine WQ.p O.ixA ?_
    refine WQ.p O.ldsE ?_
    refine WQ.p O.neT ?_
    refine WQ.nil ?_
    refine WL.nil (Q.tn ?_)
    refine CW.cond (vt rfl) (fun hc3 => ?_) (fun hc3 => ?_)
    · try simp only [sk] at hc3
      refine CW.seq ?_
      refine CW.region ?_
      refine W.p O.as ?_
      refine WL.nil (Q.tn ?_)
      refine CW.ret (Q.br (Q.tr (Q.tr (Q.br (Q.tr ?_)))))
      refine ⟨_, [], (RVs.tmp rfl RVs.nil), List.nil_sublist _, ?_⟩
      refine ⟨congrArg Value.bool ?_, rfl⟩
      rw [eq_comm, decide_eq_false_iff_not]; intro e; subst e; simp at hc3
    try simp only [sk] at hc3
    refine CW.skip (Q.bn (Q.tn ?_))
    refine CW.region ?_
    refine W.p O.mv ?_
    first | refine W.p O.addN ?_ | refine W.p O.add ?_
    refine W.p O.as ?_
    refine WL.nil (Q.tn ?_)
    refine nextA (_) ?_ ?_
    · try dsimp only
      refine ⟨by omega, by omega, ?_⟩
      rw [take_at' dR h0 (by omega), take_at' dR h0 (by omega), hr]; congr 2
      generalize xs.getD i.toNat dR = p at *; generalize ys.getD i.toNat dR = q at *; cases p; cases q; simp_all
    · try dsimp only
      omega
  try simp only [sk] at hc2
  refine CW.exit (Q.te (Q.te (Q.bx (Q.tn ?_))))
  refine CW.seq ?_
  refine CW.region ?_
  refine W.p O.as ?_
  refine WL.nil (Q.tn ?_)
  refine CW.ret ?_
  refine ⟨_, [], (RVs.tmp rfl RVs.nil), List.nil_sublist _, ?_⟩
  refine ⟨congrArg Value.bool ?_, rfl⟩
  have e1 : xs.take i.toNat = xs := List.take_of_length_le (by omega)
  have e2 : ys.take i.toNat = ys := List.take_of_length_le (by omega)
  rw [e1, e2] at hr; rw [hr]; simp
set_option maxRecDepth 100000 in
theorem spoilRRs (xs : List RR) (o : Option Nat) (c : Nat) (sp : List Value) (w : World) (ok : OwnOk o c 7 xs.length sp.length) (hL : Holds (rowL o 51 (flat encR xs sp)) w) (hn : xs.length ≤ 1000000000) : Fn Tryd.prog 20 [.slice (oa o) xs.length c] w (rowL o 51 (flat encR xs sp)) fun v L' => ∃ ys : List RR, ys.length = xs.length ∧ L' = rowL o 51 (flat encR ys sp) := by
  have nk := ok.nk
  refine Fn.enter Tryd.func20 rfl rfl rfl rfl hL ?_
  refine CW.seq ?_
  refine CW.region ?_
  refine W.p O.as ?_
  refine WL.nil (Q.tn ?_)
  refine CW.block ?_
  refine CW.loopA (X := Int × (List RR)) (fun ⟨i, ys⟩ => [(0, true, .slice (oa o) xs.length c), (2, true, .int .i64 i)]) (fun ⟨i, ys⟩ => rowL o 51 (flat encR ys sp)) (fun ⟨i, ys⟩ => 0 ≤ i ∧ i ≤ xs.length ∧ ys.length = xs.length) (fun ⟨i, ys⟩ => (xs.length - i).toNat) (0, xs) ?_ ?_
  · exact ⟨by omega, by omega, rfl⟩
  rintro ⟨i, ys⟩ hI
  try dsimp only at hI ⊢
  obtain ⟨h0, h1, hr⟩ := hI
  have nk2 : NilOk o ys := ⟨fun e => List.eq_nil_of_length_eq_zero (by rw [hr]; exact (ok.1 e).1)⟩
  refine CW.seq ?_
  refine CW.seq ?_
  refine CW.region ?_
  refine W.p O.mv ?_
  refine W.p O.mv ?_
  refine W.p O.lenL ?_
  refine W.p O.lss ?_
  refine WL.nil (Q.tn ?_)
  refine CW.cond (vt rfl) (fun hc1 => ?_) (fun hc1 => ?_)
  · try simp only [sk] at hc1
    refine CW.skip (Q.tn ?_)
    refine CW.seq ?_
    refine CW.block ?_
    refine CW.region ?_
    refine W.p O.mv ?_
    refine W.p O.mv ?_
    refine W.p O.mv ?_
    refine W.p O.mv ?_
    refine W.p O.ixA ?_
    first | refine W.p O.fe ?_ | refine W.p O.feR ?_
    refine W.p O.ldE ?_
    refine W.p O.xor ?_
    refine W.p O.ixA ?_
    first | refine W.p O.fe ?_ | refine W.p O.feR ?_
    refine W.stE ⟨(ys.getD i.toNat dR).name, (ys.getD i.toNat dR).type, bits .xor .i64 (ys.getD i.toNat dR).ttl 90, (ys.getD i.toNat dR).addr, (ys.getD i.toNat dR).target, (ys.getD i.toNat dR).text, (ys.getD i.toNat dR).serial⟩ (vt rfl) (vt rfl) rfl (by first | omega | (simp only [decide_eq_true_eq, decide_eq_false_iff_not] at *; omega)) (by decide) (by rfl) ?_
    refine WL.nil (Q.bn (Q.tn ?_))
    refine CW.region ?_
    refine W.p O.mv ?_
    first | refine W.p O.addN ?_ | refine W.p O.add ?_
    refine W.p O.as ?_
    refine WL.nil (Q.tn ?_)
    refine nextA (_, _) ?_ ?_
    · try dsimp only
      exact ⟨by omega, by omega, by simpa using hr⟩
    · try dsimp only
      omega
  try simp only [sk] at hc1
  refine CW.exit (Q.te (Q.te (Q.bx ?_)))
  refine ⟨_, rowL o 51 (flat encR ys sp), RVs.nil, (by repeat (first | exact List.Sublist.refl _ | exact hSub _ | exact List.sublist_append_left _ _ | exact List.nil_sublist _ | refine List.Sublist.append (List.Sublist.refl _) ?_ | apply List.Sublist.cons_cons | apply List.Sublist.cons | exact List.sublist_append_left _ _ | refine List.Sublist.trans ?_ (List.sublist_append_right _ _))), ?_⟩
  exact ⟨ys, hr, rfl⟩
abbrev mkQuestions : Qn' := ⟨[], 77777⟩
end Go.Proofs.YtagiajnpnjakhaaDoor
