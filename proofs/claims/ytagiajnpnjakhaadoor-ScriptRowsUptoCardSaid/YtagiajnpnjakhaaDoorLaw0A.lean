/- What the helpers of the laws come to: acts that are copied, lent, compared, written over. Conditions: the rows are not longer than a thousand millions. -/
import Derived.Test.YtagiajnpnjakhaaDoorLaw0
import Derived.Test.YtagiajnpnjakhaaDoorAe
set_option linter.unusedVariables false
set_option linter.unusedSimpArgs false
namespace Go.Proofs.YtagiajnpnjakhaaDoor
open Go Go.RowKit
abbrev mkActs : Ac := ⟨0, [], 77777, 0, 0⟩
set_option maxRecDepth 100000 in
theorem copyActs (xs : List Ac) (a : Option Addr) (c : Nat) (w : World) (h : In w a (xs.flatMap encA)) (hn : xs.length ≤ 1000000000) : Fn Tryd.prog 65 [.slice a xs.length c] w [] (Fresh encA 73 5 xs) := by
  have row := Row.ofE h
  refine Fn.enter Tryd.func65 rfl rfl rfl rfl (Holds.nil w) ?_
  refine CW.seq ?_
  refine CW.region ?_
  refine W.p O.as ?_
  refine WL.nil (Q.tn ?_)
  refine CW.seq ?_
  refine CW.region ?_
  refine W.bs0 encA rfl fun b1 => ?_
  refine W.p O.mv ?_
  refine W.ap rfl (vt rfl) (vt rfl) (by first | rfl | omega) (by first | rfl | omega) rfl (by first | assumption | exact OwnOk.nil | exact OwnOk.lit) (by first | omega | (simp; omega)) fun o1 c1 sp1 ok1 ne1 gt1 => ?_
  have nk1 := ok1.nk; have le1 := ok1.2.2.1; try simp only [List.length_append, List.length_cons, List.length_nil] at le1
  refine W.p O.as ?_
  refine WL.nil (Q.tn ?_)
  refine CW.ret ?_
  refine ⟨_, rowL o1 73 (flat encA xs sp1), (RVs.tmp rfl RVs.nil), (by repeat (first | exact List.Sublist.refl _ | exact hSub _ | exact List.sublist_append_left _ _ | exact List.nil_sublist _ | refine List.Sublist.append (List.Sublist.refl _) ?_ | apply List.Sublist.cons_cons | apply List.Sublist.cons | exact List.sublist_append_left _ _ | refine List.Sublist.trans ?_ (List.sublist_append_right _ _))), ?_⟩
  exact ⟨o1, c1, sp1, rfl, ok1, rfl⟩
set_option maxRecDepth 100000 in
theorem lendActs (xs : List Ac) (a : Option Addr) (c : Nat) (w : World) (h : In w a (xs.flatMap encA)) (hn : xs.length ≤ 1000000000) : Fn Tryd.prog 30 [.slice a xs.length c] w [] (Lent encA 73 5 xs mkActs) := by
  have row := Row.ofE h
  refine Fn.enter Tryd.func30 rfl rfl rfl rfl (Holds.nil w) ?_
  refine CW.seq ?_
  refine CW.region ?_
  refine W.p O.as ?_
  refine WL.nil (Q.tn ?_)
  refine CW.seq ?_
  refine CW.region ?_
  refine W.p O.mv ?_
  refine W.callN (first := []) (cap := []) rfl (vt rfl) (AV.cons (vt rfl) (AV.nil)) (fun w hu => copyActs xs a c w (row.h _ w hu) hn) ?_; rintro _ _ ⟨o9, c9, sp9, rfl, ok9, rfl⟩; have nk9 := ok9.nk
  refine W.p (O.bd (hv := PV.cons (vt rfl) (PV.nil))) ?_
  refine W.p (O.bd (hv := PV.cons (vt rfl) (PV.nil))) ?_
  refine W.bs encA [mkActs, mkActs] rfl (PV.cons (vt rfl) (PV.cons (vt rfl) (PV.nil))) rfl rfl rfl (by decide) rfl fun b1 => ?_
  refine W.ap rfl (vt rfl) (vt rfl) (by first | rfl | omega) (by first | rfl | omega) rfl (by first | assumption | exact OwnOk.nil | exact OwnOk.lit) (by first | omega | (simp; omega)) fun o1 c1 sp1 ok1 ne1 gt1 => ?_
  have nk1 := ok1.nk; have le1 := ok1.2.2.1; try simp only [List.length_append, List.length_cons, List.length_nil] at le1
  refine W.p O.as ?_
  refine WL.nil (Q.tn ?_)
  refine CW.seq ?_
  refine CW.region ?_
  refine W.p O.mv ?_
  refine W.p O.mv ?_
  refine W.p O.lenL ?_
  refine W.p O.slH ?_
  refine W.p O.as ?_
  refine WL.nil (Q.tn ?_)
  refine CW.ret ?_
  refine ⟨_, rowL o1 73 (flat encA (xs ++ [mkActs, mkActs]) sp1), (RVs.tmp rfl RVs.nil), (by repeat (first | exact List.Sublist.refl _ | exact hSub _ | exact List.sublist_append_left _ _ | exact List.nil_sublist _ | refine List.Sublist.append (List.Sublist.refl _) ?_ | apply List.Sublist.cons_cons | apply List.Sublist.cons | exact List.sublist_append_left _ _ | refine List.Sublist.trans ?_ (List.sublist_append_right _ _))), ?_⟩
  obtain ⟨b, rfl⟩ := ne1 (by simp)
  exact ⟨b, c1, sp1, rfl, ok1, rfl⟩
set_option maxRecDepth 100000 in
theorem sameActs (xs ys : List Ac) (a b : Option Addr) (c c' : Nat) (w : World) (h : In w a (xs.flatMap encA)) (h' : In w b (ys.flatMap encA)) (hn : xs.length ≤ 1000000000) : Fn Tryd.prog 35 [.slice a xs.length c, .slice b ys.length c'] w [] fun v L' => v = .bool (decide (xs = ys)) ∧ L' = [] := by
  have row := Row.ofE h
  have row' := Row.ofE h'
  refine Fn.enter Tryd.func35 rfl rfl rfl rfl (Holds.nil w) ?_
  refine CW.seq ?_
  refine CW.region ?_
  refine W.p O.as ?_
  refine WL.nil (Q.tn ?_)
  refine CW.seq ?_
  refine CW.seq ?_
  refine CW.region ?_
  refine W.p O.mv ?_
  refine W.p O.lenL ?_
  refine W.p O.mv ?_
  refine W.p O.lenL ?_
  refine W.p O.neI ?_
  refine WL.nil (Q.tn ?_)
  refine CW.cond (vt rfl) (fun hc1 => ?_) (fun hc1 => ?_)
  · try simp only [sk] at hc1
    refine CW.seq ?_
    refine CW.region ?_
    refine W.p O.as ?_
    refine WL.nil (Q.tn ?_)
    refine CW.ret (Q.tr ?_)
    refine ⟨_, [], (RVs.tmp rfl RVs.nil), List.nil_sublist _, ?_⟩
    refine ⟨congrArg Value.bool ?_, rfl⟩
    rw [eq_comm, decide_eq_false_iff_not]; intro e; subst e; exact hc1 rfl
  try simp only [sk] at hc1
  refine CW.skip (Q.tn ?_)
  refine CW.seq ?_
  refine CW.seq ?_
  refine CW.region ?_
  refine W.p O.as ?_
  refine WL.nil (Q.tn ?_)
  refine CW.block ?_
  refine CW.loopA (X := Int) (fun i => [(0, true, .slice a xs.length c), (1, true, .slice b ys.length c'), (5, true, .int .i64 i)]) (fun i => []) (fun i => 0 ≤ i ∧ i ≤ xs.length ∧ xs.take i.toNat = ys.take i.toNat) (fun i => (xs.length - i).toNat) (0) ?_ ?_
  · exact ⟨by omega, by omega, rfl⟩
  rintro i hI
  try dsimp only at hI ⊢
  obtain ⟨h0, h1, hr⟩ := hI
  refine CW.seq ?_
  refine CW.seq ?_
  refine CW.region ?_
  refine W.p O.mv ?_
  refine W.p O.mv ?_
  refine W.p O.lenL ?_
  refine W.p O.lss ?_
  refine WL.nil (Q.tn ?_)
  refine CW.cond (vt rfl) (fun hc2 => ?_) (fun hc2 => ?_)
  · try simp only [sk] at hc2
    refine CW.skip (Q.tn ?_)
    refine CW.seq ?_
    refine CW.block ?_
    refine CW.seq ?_
    refine CW.draw 9 rfl (by kernel_rfl) ?_
    refine WQ.p O.mv ?_
    refine WQ.p O.mv ?_
    refine WQ.p O.ixA ?_
    refine WQ.p O.ldsE ?_
    refine WQ.p O.mv ?_
    refine WQ.p O.mv ?_
    refine WQ.p O.ixA ?_
    refine WQ.p O.ldsE ?_
    refine WQ.p O.neT ?_
    refine WQ.nil ?_
    refine WL.nil (Q.tn ?_)
    refine CW.cond (vt rfl) (fun hc3 => ?_) (fun hc3 => ?_)
    · try simp only [sk] at hc3
      refine CW.seq ?_
      refine CW.region ?_
      refine W.p O.as ?_
      refine WL.nil (Q.tn ?_)
      refine CW.ret (Q.br (Q.tr (Q.tr (Q.br (Q.tr ?_)))))
      refine ⟨_, [], (RVs.tmp rfl RVs.nil), List.nil_sublist _, ?_⟩
      refine ⟨congrArg Value.bool ?_, rfl⟩
      rw [eq_comm, decide_eq_false_iff_not]; intro e; subst e; simp at hc3
    try simp only [sk] at hc3
    refine CW.skip (Q.bn (Q.tn ?_))
    refine CW.region ?_
    refine W.p O.mv ?_
    first | refine W.p O.addN ?_ | refine W.p O.add ?_
    refine W.p O.as ?_
    refine WL.nil (Q.tn ?_)
    refine nextA (_) ?_ ?_
    · try dsimp only
      refine ⟨by omega, by omega, ?_⟩
      rw [take_at' dA h0 (by omega), take_at' dA h0 (by omega), hr]; congr 2
      generalize xs.getD i.toNat dA = p at *; generalize ys.getD i.toNat dA = q at *; cases p; cases q; simp_all
    · try dsimp only
      omega
  try simp only [sk] at hc2
  refine CW.exit (Q.te (Q.te (Q.bx (Q.tn ?_))))
  refine CW.seq ?_
  refine CW.region ?_
  refine W.p O.as ?_
  refine WL.nil (Q.tn ?_)
  refine CW.ret ?_
  refine ⟨_, [], (RVs.tmp rfl RVs.nil), List.nil_sublist _, ?_⟩
  refine ⟨congrArg Value.bool ?_, rfl⟩
  have e1 : xs.take i.toNat = xs := List.take_of_length_le (by omega)
  have e2 : ys.take i.toNat = ys := List.take_of_length_le (by omega)
  rw [e1, e2] at hr; rw [hr]; simp
set_option maxRecDepth 100000 in
theorem keptActs (xs : List Ac) (b : Nat) (a : Option Addr) (c c' : Nat) (w : World) (h : In w (oa (some b)) ((xs ++ [mkActs, mkActs]).flatMap encA)) (h' : In w a (xs.flatMap encA)) (hn : xs.length ≤ 1000000000) (hc : xs.length + 2 ≤ c) : Fn Tryd.prog 36 [.slice (oa (some b)) xs.length c, .slice a xs.length c'] w [] fun v L' => v = .bool true ∧ L' = [] := by
  have row := Row.ofE h
  have gm := getD_mid dA xs mkActs mkActs
  refine Fn.enter Tryd.func36 rfl rfl rfl rfl (Holds.nil w) ?_
  refine CW.seq ?_
  refine CW.region ?_
  refine W.p O.as ?_
  refine WL.nil (Q.tn ?_)
  refine CW.seq ?_
  refine CW.region ?_
  refine W.p O.mv ?_
  refine W.p O.mv ?_
  refine W.p O.lenL ?_
  first | refine W.p O.addN ?_ | refine W.p O.add ?_
  refine W.p O.slH ?_
  refine W.p O.as ?_
  refine WL.nil (Q.tn ?_)
  refine CW.seq ?_
  refine CW.region ?_
  refine W.p O.mv ?_
  refine W.p O.mv ?_
  refine W.q (O.call ⟨rfl, rfl⟩ (AV.cons (vt rfl) (AV.cons (vt rfl) (AV.nil))) (fun _ w hw => sameActs xs xs (oa (some b)) a c c' w (by have := row.h _ w hw; rw [List.flatMap_append] at this; exact this.pre) ((Row.ofE h').h _ w hw) hn)) ?_
  refine W.p O.mv ?_
  refine W.p O.mv ?_
  refine W.p O.mv ?_
  refine W.p O.lenL ?_
  refine W.p O.ixA ?_
  refine W.p O.ldsE ?_
  refine W.p (O.bd (hv := PV.cons (vt rfl) (PV.nil))) ?_
  refine W.p O.eqT ?_
  refine W.p O.pkB ?_
  refine W.p O.mv ?_
  refine W.p O.mv ?_
  refine W.p O.mv ?_
  refine W.p O.lenL ?_
  first | refine W.p O.addN ?_ | refine W.p O.add ?_
  refine W.p O.ixA ?_
  refine W.p O.ldsE ?_
  refine W.p (O.bd (hv := PV.cons (vt rfl) (PV.nil))) ?_
  refine W.p O.eqT ?_
  refine W.p O.pkB ?_
  refine W.p O.as ?_
  refine WL.nil (Q.tn ?_)
  refine CW.ret ?_
  refine ⟨_, [], (RVs.tmp rfl RVs.nil), List.nil_sublist _, ?_⟩
  refine ⟨congrArg Value.bool ?_, rfl⟩
  simp only [Int.toNat_natCast, show ((xs.length : Int) + 1).toNat = xs.length + 1 by omega, gm.1, gm.2]
  simp
set_option maxRecDepth 100000 in
theorem spoilActs (xs : List Ac) (o : Option Nat) (c : Nat) (sp : List Value) (w : World) (ok : OwnOk o c 5 xs.length sp.length) (hL : Holds (rowL o 73 (flat encA xs sp)) w) (hn : xs.length ≤ 1000000000) : Fn Tryd.prog 39 [.slice (oa o) xs.length c] w (rowL o 73 (flat encA xs sp)) fun v L' => ∃ ys : List Ac, ys.length = xs.length ∧ L' = rowL o 73 (flat encA ys sp) := by
  have nk := ok.nk
  refine Fn.enter Tryd.func39 rfl rfl rfl rfl hL ?_
  refine CW.seq ?_
  refine CW.region ?_
  refine W.p O.as ?_
  refine WL.nil (Q.tn ?_)
  refine CW.block ?_
  refine CW.loopA (X := Int × (List Ac)) (fun ⟨i, ys⟩ => [(0, true, .slice (oa o) xs.length c), (2, true, .int .i64 i)]) (fun ⟨i, ys⟩ => rowL o 73 (flat encA ys sp)) (fun ⟨i, ys⟩ => 0 ≤ i ∧ i ≤ xs.length ∧ ys.length = xs.length) (fun ⟨i, ys⟩ => (xs.length - i).toNat) (0, xs) ?_ ?_
  · exact ⟨by omega, by omega, rfl⟩
  rintro ⟨i, ys⟩ hI
  try dsimp only at hI ⊢
  obtain ⟨h0, h1, hr⟩ := hI
  have nk2 : NilOk o ys := ⟨fun e => List.eq_nil_of_length_eq_zero (by rw [hr]; exact (ok.1 e).1)⟩
  refine CW.seq ?_
  refine CW.seq ?_
  refine CW.region ?_
  refine W.p O.mv ?_
  refine W.p O.mv ?_
  refine W.p O.lenL ?_
  refine W.p O.lss ?_
  refine WL.nil (Q.tn ?_)
  refine CW.cond (vt rfl) (fun hc1 => ?_) (fun hc1 => ?_)
  · try simp only [sk] at hc1
    refine CW.skip (Q.tn ?_)
    refine CW.seq ?_
    refine CW.block ?_
    refine CW.region ?_
    refine W.p O.mv ?_
    refine W.p O.mv ?_
    refine W.p O.mv ?_
    refine W.p O.mv ?_
    refine W.p O.ixA ?_
    first | refine W.p O.fe ?_ | refine W.p O.feR ?_
    refine W.p O.ldE ?_
    refine W.p O.xor ?_
    refine W.p O.ixA ?_
    first | refine W.p O.fe ?_ | refine W.p O.feR ?_
    refine W.stE ⟨(ys.getD i.toNat dA).kind, (ys.getD i.toNat dA).text, bits .xor .i64 (ys.getD i.toNat dA).by_ 90, (ys.getD i.toNat dA).cut, (ys.getD i.toNat dA).keep⟩ (vt rfl) (vt rfl) rfl (by first | omega | (simp only [decide_eq_true_eq, decide_eq_false_iff_not] at *; omega)) (by decide) (by rfl) ?_
    refine WL.nil (Q.bn (Q.tn ?_))
    refine CW.region ?_
    refine W.p O.mv ?_
    first | refine W.p O.addN ?_ | refine W.p O.add ?_
    refine W.p O.as ?_
    refine WL.nil (Q.tn ?_)
    refine nextA (_, _) ?_ ?_
    · try dsimp only
      exact ⟨by omega, by omega, by simpa using hr⟩
    · try dsimp only
      omega
  try simp only [sk] at hc1
  refine CW.exit (Q.te (Q.te (Q.bx ?_)))
  refine ⟨_, rowL o 73 (flat encA ys sp), RVs.nil, (by repeat (first | exact List.Sublist.refl _ | exact hSub _ | exact List.sublist_append_left _ _ | exact List.nil_sublist _ | refine List.Sublist.append (List.Sublist.refl _) ?_ | apply List.Sublist.cons_cons | apply List.Sublist.cons | exact List.sublist_append_left _ _ | refine List.Sublist.trans ?_ (List.sublist_append_right _ _))), ?_⟩
  exact ⟨ys, hr, rfl⟩
end Go.Proofs.YtagiajnpnjakhaaDoor
