/- What slices.Grow and slices.Concat of records come to. Condition: three rows of not more than a million each. -/
import Derived.Test.YtkjcmdgideddnaaDnA
import Derived.Test.YtkjcmdgideddnaaGrow
set_option linter.unusedVariables false
set_option linter.unusedSimpArgs false
namespace Go.Proofs.Ytkjcmdgideddnaa
open Go Go.RowKit
set_option maxRecDepth 100000 in
theorem dn_Grow (k : Int) (w : World) (h : 0 ≤ k ∧ k ≤ 1000000000) : Fn Try.prog 184 [.slice none 0 0, .int .i64 k] w [] (Fresh encR 96 7 []) := by
  refine Fn.enter Try.func184 rfl rfl rfl rfl (Holds.nil w) ?_
  refine CW.seq ?_
  refine CW.region ?_
  refine W.p O.as ?_
  refine WL.nil (Q.tn ?_)
  refine CW.seq ?_
  refine CW.seq ?_
  refine CW.region ?_
  refine W.p O.mv ?_
  refine W.p O.lss ?_
  refine WL.nil (Q.tn ?_)
  refine CW.cond (vt rfl) (fun hc1 => ?_) (fun hc1 => ?_)
  · exfalso; have := of_decide_eq_true hc1; omega
  try simp only [sk] at hc1
  refine CW.skip (Q.tn ?_)
  refine CW.seq ?_
  refine CW.seq ?_
  refine CW.region ?_
  refine W.p O.mv ?_
  refine W.p O.mv ?_
  refine W.p O.capL ?_
  refine W.p O.mv ?_
  refine W.p O.lenL ?_
  first | refine W.p O.subN ?_ | refine W.p O.sub ?_
  first | refine W.p O.subN ?_ | refine W.p O.sub ?_
  refine W.p O.as ?_
  refine WL.nil (Q.tn ?_)
  refine CW.seq ?_
  refine CW.region ?_
  refine W.p O.mv ?_
  refine W.p O.gtr ?_
  refine WL.nil (Q.tn ?_)
  refine CW.cond (vt rfl) (fun hc2 => ?_) (fun hc2 => ?_)
  · try simp only [sk] at hc2
    refine CW.region ?_
    refine W.p O.mv ?_
    refine W.p O.mv ?_
    refine W.p O.capL ?_
    refine W.p O.slH ?_
    refine W.p O.mv ?_
    refine W.apZ encR rfl (vt rfl) (vt rfl) rfl (by decide) (by first | omega | (simp only [decide_eq_true_eq] at *; omega)) (by omega) fun b1 c1 sp1 ok1 le1 => ?_
    refine W.p O.mv ?_
    refine W.p O.lenL ?_
    refine W.p O.slH ?_
    refine W.p O.as ?_
    refine WL.nil (Q.tn ?_)
    refine CW.seq ?_
    refine CW.region ?_
    refine W.p O.mv ?_
    refine W.p O.as ?_
    refine WL.nil (Q.tn ?_)
    refine CW.ret ?_
    refine ⟨_, rowL (some b1) 96 (flat encR [] sp1), (RVs.tmp rfl RVs.nil), (by repeat (first | exact List.Sublist.refl _ | exact hSub _ | exact List.sublist_append_left _ _ | exact List.nil_sublist _ | refine List.Sublist.append (List.Sublist.refl _) ?_ | apply List.Sublist.cons_cons | apply List.Sublist.cons | exact List.sublist_append_left _ _ | refine List.Sublist.trans ?_ (List.sublist_append_right _ _))), ?_⟩
    exact ⟨some b1, c1, sp1, rfl, ok1, rfl⟩
  try simp only [sk] at hc2
  refine CW.skip (Q.tn ?_)
  refine CW.seq ?_
  refine CW.region ?_
  refine W.p O.mv ?_
  refine W.p O.as ?_
  refine WL.nil (Q.tn ?_)
  refine CW.ret ?_
  refine ⟨_, [], (RVs.tmp rfl RVs.nil), List.nil_sublist _, ?_⟩
  exact ⟨none, 0, [], rfl, OwnOk.nil, rfl⟩
theorem flat_up {α : Type} {xss : List (List α)} {i : Int} (h0 : 0 ≤ i) (h1 : i < xss.length) : (xss.take (i + 1).toNat).flatten = (xss.take i.toNat).flatten ++ xss.getD i.toNat [] := by
  rw [take_at' [] h0 h1, List.flatten_append]; simp
set_option maxRecDepth 100000 in
theorem dn_Concat (ts : List (Option Addr × Nat × Nat)) (rss : List (List RR)) (a : Option Addr) (c : Nat) (w : World) (h : In w a (ts.flatMap encSl)) (hn : ts.length = 3) (hr3 : rss.length = 3) (hrow : ∀ i : Int, 0 ≤ i → i < 3 → In w (ts.getD i.toNat dSl).1 ((rss.getD i.toNat []).flatMap encR) ∧ (ts.getD i.toNat dSl).2.1 = (rss.getD i.toNat []).length ∧ (rss.getD i.toNat []).length ≤ 1000000) : Fn Try.prog 168 [.slice a ts.length c] w [] (Fresh encR 96 7 rss.flatten) := by
  have row := Row.ofE h
  refine Fn.enter Try.func168 rfl rfl rfl rfl (Holds.nil w) ?_
  refine CW.seq ?_
  refine CW.region ?_
  refine W.p O.as ?_
  refine WL.nil (Q.tn ?_)
  refine CW.seq ?_
  refine CW.region ?_
  refine W.p O.as ?_
  refine WL.nil (Q.tn ?_)
  refine CW.seq ?_
  refine CW.seq ?_
  refine CW.region ?_
  refine W.p O.mv ?_
  refine W.p O.lenL ?_
  refine W.p O.mv ?_
  refine WL.nil (Q.tn ?_)
  refine CW.block ?_
  refine CW.loopA (X := Int × Int) (fun ⟨i, z⟩ => [(0, true, .slice a ts.length c), (9, true, .slice a ts.length c), (10, true, .int .i64 ts.length), (3, true, .int .i64 z), (11, true, .int .i64 i)]) (fun ⟨i, z⟩ => []) (fun ⟨i, z⟩ => 0 ≤ i ∧ i ≤ 3 ∧ z = ((rss.take i.toNat).flatten.length : Int) ∧ 0 ≤ z ∧ z ≤ i * 1000000) (fun ⟨i, z⟩ => (3 - i).toNat) (0, 0) ?_ ?_
  · exact ⟨by omega, by omega, rfl, by omega, by omega⟩
  rintro ⟨i, z⟩ hI
  try dsimp only at hI ⊢
  obtain ⟨h0, h1, hz, hz0, hz1⟩ := hI
  refine CW.seq ?_
  refine CW.region ?_
  refine W.p O.lss ?_
  refine WL.nil (Q.tn ?_)
  refine CW.seq ?_
  refine CW.cond (vt rfl) (fun hc1 => ?_) (fun hc1 => ?_)
  · try simp only [sk] at hc1
    have hw3 := hrow i h0 (by omega)
    refine CW.skip (Q.tn ?_)
    refine CW.seq ?_
    refine CW.block ?_
    refine CW.seq ?_
    refine CW.region ?_
    refine W.p O.ixA ?_
    refine W.p O.ldE ?_
    refine W.p O.as ?_
    refine WL.nil (Q.tn ?_)
    refine CW.seq ?_
    refine CW.region ?_
    refine W.p O.mv ?_
    refine W.p O.mv ?_
    refine W.p O.lenL ?_
    first | refine W.p O.addN ?_ | refine W.p O.add ?_
    refine W.p O.as ?_
    refine WL.nil (Q.tn ?_)
    refine CW.seq ?_
    refine CW.region ?_
    refine W.p O.mv ?_
    refine W.p O.lss ?_
    refine WL.nil (Q.tn ?_)
    refine CW.cond (vt rfl) (fun hc2 => ?_) (fun hc2 => ?_)
    · exfalso; have := of_decide_eq_true hc2; omega
    try simp only [sk] at hc2
    refine CW.skip (Q.bn (Q.tn ?_))
    refine CW.region ?_
    first | refine W.p O.addN ?_ | refine W.p O.add ?_
    refine W.p O.mv ?_
    refine WL.nil (Q.tn ?_)
    refine nextA (_, _) ?_ ?_
    · try dsimp only
      have hw3 := hrow i h0 (by omega)
      refine ⟨by omega, by omega, ?_, by omega, by omega⟩
      rw [flat_up h0 (by omega), List.length_append]; omega
    · try dsimp only
      omega
  try simp only [sk] at hc1
  refine CW.exit (Q.te (Q.te (Q.bx (Q.tn ?_))))
  refine CW.seq ?_
  refine CW.region ?_
  refine W.p O.mv ?_
  refine W.callN (first := []) (cap := []) rfl (vt rfl) (AV.cons (vt rfl) (AV.cons (vt rfl) (AV.nil))) (fun w hu => dn_Grow z w (by omega)) ?_; rintro _ _ ⟨o9, c9, sp9, rfl, ok9, rfl⟩; have nk9 := ok9.nk (α := RR) (xs := [])
  refine W.p O.as ?_
  refine WL.nil (Q.tn ?_)
  refine CW.seq ?_
  refine CW.seq ?_
  refine CW.region ?_
  refine W.p O.mv ?_
  refine W.p O.lenL ?_
  refine W.p O.mv ?_
  refine WL.nil (Q.tn ?_)
  refine CW.block ?_
  refine CW.loopA (X := Int × (List RR) × (Option Nat) × Nat × (List Value)) (fun ⟨i, xs, o, cc, sp⟩ => [(25, true, .slice a ts.length c), (26, true, .int .i64 ts.length), (6, true, .slice (oa o) xs.length cc), (27, true, .int .i64 i)]) (fun ⟨i, xs, o, cc, sp⟩ => rowL o 96 (flat encR xs sp)) (fun ⟨i, xs, o, cc, sp⟩ => 0 ≤ i ∧ i ≤ 3 ∧ OwnOk o cc 7 xs.length sp.length ∧ xs = (rss.take i.toNat).flatten ∧ xs.length ≤ i * 1000000) (fun ⟨i, xs, o, cc, sp⟩ => (3 - i).toNat) (0, [], o9, c9, sp9) ?_ ?_
  · exact ⟨by omega, by omega, ok9, rfl, by simp⟩
  rintro ⟨i, xs, o, cc, sp⟩ hI
  try dsimp only at hI ⊢
  obtain ⟨h0, h1, ok8, hx, hl⟩ := hI
  have nk8 := ok8.nk (α := RR) (xs := xs)
  refine CW.seq ?_
  refine CW.region ?_
  refine W.p O.lss ?_
  refine WL.nil (Q.tn ?_)
  refine CW.seq ?_
  refine CW.cond (vt rfl) (fun hc3 => ?_) (fun hc3 => ?_)
  · try simp only [sk] at hc3
    have hw3 := hrow i h0 (by omega)
    have hl3 := hw3.2.1
    have row3 := Row.ofE (dv := dR) hw3.1
    refine CW.skip (Q.tn ?_)
    refine CW.seq ?_
    refine CW.block ?_
    refine CW.seq ?_
    refine CW.region ?_
    refine W.p O.ixA ?_
    refine W.p O.ldE ?_
    refine W.p O.as ?_
    refine WL.nil (Q.tn ?_)
    refine CW.region ?_
    refine W.p O.mv ?_
    refine W.p O.mv ?_
    refine W.ap rfl (vt rfl) (vt rfl) (by first | rfl | omega) (by first | rfl | omega) rfl (by first | assumption | exact OwnOk.nil | exact OwnOk.lit) (by first | omega | (simp; omega)) fun o1 c1 sp1 ok1 ne1 gt1 => ?_
    have nk1 := ok1.nk; have le1 := ok1.2.2.1; try simp only [List.length_append, List.length_cons, List.length_nil] at le1
    refine W.p O.as ?_
    refine WL.nil (Q.bn (Q.tn ?_))
    refine CW.region ?_
    first | refine W.p O.addN ?_ | refine W.p O.add ?_
    refine W.p O.mv ?_
    refine WL.nil (Q.tn ?_)
    refine nextA (_, _, _, _, _) ?_ ?_
    · try dsimp only
      have hw3 := hrow i h0 (by omega)
      refine ⟨by omega, by omega, by assumption, ?_, by simp only [List.length_append]; omega⟩
      rw [flat_up h0 (by omega), ← hx]
    · try dsimp only
      omega
  try simp only [sk] at hc3
  refine CW.exit (Q.te (Q.te (Q.bx (Q.tn ?_))))
  refine CW.seq ?_
  refine CW.region ?_
  refine W.p O.mv ?_
  refine W.p O.as ?_
  refine WL.nil (Q.tn ?_)
  refine CW.ret ?_
  refine ⟨_, rowL o 96 (flat encR xs sp), (RVs.tmp rfl RVs.nil), (by repeat (first | exact List.Sublist.refl _ | exact hSub _ | exact List.sublist_append_left _ _ | exact List.nil_sublist _ | refine List.Sublist.append (List.Sublist.refl _) ?_ | apply List.Sublist.cons_cons | apply List.Sublist.cons | exact List.sublist_append_left _ _ | refine List.Sublist.trans ?_ (List.sublist_append_right _ _))), ?_⟩
  have e : rss.take i.toNat = rss := List.take_of_length_le (by omega)
  rw [e] at hx; rw [← hx]; exact ⟨o, cc, sp, rfl, ok8, rfl⟩
end Go.Proofs.Ytkjcmdgideddnaa
