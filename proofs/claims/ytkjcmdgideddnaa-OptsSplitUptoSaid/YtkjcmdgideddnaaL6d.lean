/- The statement OptsSplit: its walk. Condition: the row of texts is not longer than some 2^42. -/
import Derived.Test.YtkjcmdgideddnaaL6
import Derived.Test.YtkjcmdgideddnaaLies
import Derived.Test.YtkjcmdgideddnaaPSp
set_option linter.unusedVariables false
set_option linter.unusedSimpArgs false
namespace Go.Proofs.Ytkjcmdgideddnaa
open Go Go.RowKit
theorem mem_at2 {α : Type} (d : α) {xs : List α} {i : Int} (h0 : 0 ≤ i) (h1 : i < xs.length) : xs.getD i.toNat d ∈ xs := by
  rw [List.getD_eq_getElem?_getD, List.getElem?_eq_getElem (by omega)]; exact List.getElem_mem _
theorem sp_get {s : List UInt8} {row : List Int} {seen : List Bool} {want : List (List UInt8)} {n : Int} (h : SP s row seen want n) (hn : n ≤ 12) : getR s = (row.map (spF want), 0) ∧ getR (s ++ [255, 32]) = (row.map (spF want), 0) := by
  have h1 := sp_fin h hn [] rfl
  have h2 := sp_fin h hn [255, 32] rfl
  rw [List.append_nil] at h1
  unfold getR
  rw [h1, h2]; exact ⟨rfl, rfl⟩
set_option maxRecDepth 100000 in
theorem law6_OptsSplit (xs : List (List UInt8)) (a : Option Addr) (c : Nat) (ys : List Int) (a' : Option Addr) (c' : Nat) (w : World) (h : In w a (xs.flatMap encS)) (h' : In w a' (ys.flatMap encI)) (hn : xs.length ≤ 1048576) (hn' : ys.length ≤ 1048576) : Fn Try.prog 7 [.slice a xs.length c, .slice a' ys.length c'] w [] fun v L' => v = .bool true ∧ L' = [] := by
  have row := Row.ofE h
  have row' := Row.ofE h'
  refine Fn.enter Try.func7 rfl rfl rfl rfl (Holds.nil w) ?_
  refine CW.seq ?_
  refine CW.region ?_
  refine W.p O.as ?_
  refine WL.nil (Q.tn ?_)
  refine CW.seq ?_
  refine CW.seq ?_
  refine CW.region ?_
  refine W.q (O.call ⟨rfl, rfl⟩ (AV.nil) (fun _ w hw => law6_awake w)) ?_
  refine W.p O.nt ?_
  refine WL.nil (Q.tn ?_)
  refine CW.cond (vt rfl) (fun hc1 => ?_) (fun hc1 => ?_)
  · exact absurd hc1 (by decide)
  try simp only [Bool.cond_true_left, Bool.cond_false_right, Bool.or_eq_true, Bool.or_eq_false_iff, Bool.and_eq_true, Bool.and_eq_false_iff, decide_eq_true_eq, decide_eq_false_iff_not, Bool.not_eq_true', Bool.not_eq_false'] at hc1
  refine CW.skip (Q.tn ?_)
  refine CW.seq ?_
  refine CW.region ?_
  refine W.p O.as ?_
  refine WL.nil (Q.tn ?_)
  refine CW.seq ?_
  refine CW.region ?_
  refine W.al (cs := (List.replicate 4 ([] : List UInt8)).map kS) rfl rfl fun b1 => ?_
  refine WL.nil (Q.tn ?_)
  refine CW.seq ?_
  refine CW.region ?_
  refine W.al (cs := (List.replicate 4 false).map vB) rfl rfl fun b2 => ?_
  refine WL.nil (Q.tn ?_)
  refine CW.seq ?_
  refine CW.region ?_
  refine W.p O.as ?_
  refine WL.nil (Q.tn ?_)
  refine CW.seq ?_
  refine CW.seq ?_
  refine CW.region ?_
  refine W.p O.as ?_
  refine WL.nil (Q.tn ?_)
  refine CW.block ?_
  refine CW.loop (X := Int × (List UInt8) × (List Int) × (List Bool) × (List (List UInt8)) × (Option Nat) × Nat × (List Value)) (fun ⟨i, s, row, seen, want, p1, q1, r1⟩ => [(0, true, .slice a xs.length c), (1, true, .slice a' ys.length c'), (5, true, .string (S s)), (6, true, .pointer (some ⟨b1, 0, none⟩)), (7, true, .pointer (some ⟨b2, 0, none⟩)), (8, true, .slice (oa p1) row.length q1), (9, true, .int .i64 i)]) (fun ⟨i, s, row, seen, want, p1, q1, r1⟩ => rowL p1 3 (flat encI row r1) ++ [(b2, .cells (seen.map vB).toArray 49 (0, 0)), (b1, .cells (want.map kS).toArray 48 (0, 0))]) (fun ⟨i, s, row, seen, want, p1, q1, r1⟩ => 0 ≤ i ∧ i ≤ xs.length ∧ i ≤ 12 ∧ SP s row seen want i ∧ OwnOk p1 q1 1 row.length r1.length ∧ s.length ≤ 42 * i) (fun ⟨i, s, row, seen, want, p1, q1, r1⟩ => (xs.length - i).toNat) (0, [], [], List.replicate 4 false, List.replicate 4 [], none, 0, []) ?_ (by repeat (first | exact trivial | refine ⟨rfl, ?_⟩ | refine ⟨by (simp only [List.length_set]; rfl), ?_⟩)) (by repeat (first | exact List.Sublist.refl _ | exact List.sublist_append_left _ _ | exact List.nil_sublist _ | refine List.Sublist.append (List.Sublist.refl _) ?_ | apply List.Sublist.cons_cons | apply List.Sublist.cons | refine List.Sublist.trans ?_ (List.sublist_append_right _ _))) ?_
  · exact ⟨by omega, by omega, by omega, sp_new, OwnOk.nil, by simp⟩
  rintro ⟨i, s, row, seen, want, p1, q1, r1⟩ hI
  try dsimp only at hI ⊢
  obtain ⟨h0, h1, h12, hS, hk1, hsl⟩ := hI
  have nk1 := hk1.nk
  have hls := hS.ls
  have hlw := hS.lw
  have hrl := hS.rl
  have htl : ((xs.getD i.toNat []).take (min ((xs.getD i.toNat []).length : Int) 40).toNat).length ≤ 40 := by rw [List.length_take]; omega
  refine CW.seq ?_
  refine CW.seq ?_
  refine CW.region ?_
  refine W.p O.mv ?_
  refine W.p O.mv ?_
  refine W.p O.lenL ?_
  refine W.p O.lss ?_
  refine W.p O.mv ?_
  refine W.p O.mv ?_
  refine W.p O.lss ?_
  refine W.p O.pkB ?_
  refine WL.nil (Q.tn ?_)
  refine CW.cond (vt rfl) (fun hc2 => ?_) (fun hc2 => ?_)
  · try simp only [Bool.cond_true_left, Bool.cond_false_right, Bool.or_eq_true, Bool.or_eq_false_iff, Bool.and_eq_true, Bool.and_eq_false_iff, decide_eq_true_eq, decide_eq_false_iff_not, Bool.not_eq_true', Bool.not_eq_false'] at hc2
    refine CW.skip (Q.tn ?_)
    refine CW.seq ?_
    refine CW.block ?_
    refine CW.seq ?_
    refine CW.region ?_
    refine W.p O.as ?_
    refine WL.nil (Q.tn ?_)
    refine CW.seq ?_
    refine CW.seq ?_
    refine CW.region ?_
    refine W.p O.mv ?_
    refine W.p O.mv ?_
    refine W.p O.lenL ?_
    refine W.p O.lss ?_
    refine WL.nil (Q.tn ?_)
    refine CW.cond (vt rfl) (fun hc3 => ?_) (fun hc3 => ?_)
    · try simp only [Bool.cond_true_left, Bool.cond_false_right, Bool.or_eq_true, Bool.or_eq_false_iff, Bool.and_eq_true, Bool.and_eq_false_iff, decide_eq_true_eq, decide_eq_false_iff_not, Bool.not_eq_true', Bool.not_eq_false'] at hc3
      have hle := hS.le ((ys.getD i.toNat 0) % 4) (by omega) (by omega)
      have hle2 := hle
      simp only [List.getD_eq_getElem?_getD] at hle2
      refine CW.region ?_
      refine W.p O.mv ?_
      refine W.p O.mv ?_
      refine W.p O.ixA ?_
      refine W.p O.ldE ?_
      refine W.p (O.andM 2 4 (h := by decide) (hq := by decide) (hM := by decide)) ?_
      refine W.p O.as ?_
      refine WL.nil (Q.tn ?_)
      refine CW.seq ?_
      refine CW.draw 12 rfl (by kernel_rfl) ?_
      refine WQ.p O.mv ?_
      refine WQ.p O.mv ?_
      refine WQ.p O.ixA ?_
      refine WQ.p O.ldE ?_
      refine WQ.p O.mv ?_
      refine WQ.p O.mv ?_
      refine WQ.p O.ixA ?_
      refine WQ.p O.ldE ?_
      refine WQ.p O.len ?_
      refine WQ.p O.min ?_
      refine WQ.p O.slcH ?_
      refine WQ.p O.as ?_
      refine WQ.nil ?_
      refine WL.nil (Q.tn ?_)
      refine CW.seq ?_
      refine CW.region ?_
      refine W.p O.mv ?_
      refine W.p O.mv ?_
      first | refine W.p O.addN ?_ | refine W.p O.add ?_
      refine W.p O.cvI8 ?_
      refine W.p O.mv ?_
      refine W.p O.len ?_
      refine W.p O.cvI8 ?_
      refine W.bs encB [_, _] rfl (PV.cons (vt rfl) (PV.cons (vt rfl) (PV.nil))) rfl rfl rfl (by decide) rfl fun b3 => ?_
      refine W.p (O.cvRow ⟨rfl, rfl⟩ (vt rfl) (by first | rfl | omega) (fun _ => ⟨_, rfl⟩)) ?_
      refine W.p O.addS ?_
      refine W.p O.mv ?_
      refine W.p O.addS ?_
      refine W.p O.as ?_
      refine WL.nil (Q.tn ?_)
      refine CW.seq ?_
      refine CW.seq ?_
      refine CW.region ?_
      refine W.p O.mv ?_
      refine W.p O.ixR ?_
      refine W.p (O.ldA false (h := fun hg => by first | omega | (simp only [cond_true, cond_false, Bool.true_and, Bool.and_eq_true, Bool.not_eq_true', decide_eq_true_eq, decide_eq_false_iff_not, Bool.or_eq_false_iff, Bool.cond_true_left] at *; omega))) ?_
      refine W.p O.nt ?_
      refine WL.nil (Q.tn ?_)
      refine CW.cond (vt rfl) (fun hc4 => ?_) (fun hc4 => ?_)
      · try simp only [Bool.cond_true_left, Bool.cond_false_right, Bool.or_eq_true, Bool.or_eq_false_iff, Bool.and_eq_true, Bool.and_eq_false_iff, decide_eq_true_eq, decide_eq_false_iff_not, Bool.not_eq_true', Bool.not_eq_false'] at hc4
        refine CW.region ?_
        refine W.p O.mv ?_
        refine W.p O.mv ?_
        refine W.bs encI [_] rfl (PV.cons (vt rfl) (PV.nil)) rfl rfl rfl (by decide) rfl fun b4 => ?_
        refine W.ap rfl (vt rfl) (vt rfl) (by first | rfl | omega) (by first | rfl | omega) rfl (by first | assumption | exact OwnOk.nil | exact OwnOk.lit) (by first | omega | (simp; omega)) fun o1 c1 sp1 ok1 ne1 gt1 => ?_
        have nk1 := ok1.nk; have le1 := ok1.2.2.1; try simp only [List.length_append, List.length_cons, List.length_nil] at le1
        refine W.p O.as ?_
        refine WL.nil (Q.tn ?_)
        refine CW.seq ?_
        refine CW.region ?_
        refine W.p O.mv ?_
        refine W.p O.ixR ?_
        refine W.stA _ (vt rfl) (vt rfl) rfl rfl (by omega) ?_
        refine WL.nil (Q.tn ?_)
        refine CW.region ?_
        refine W.p O.mv ?_
        refine W.p O.mv ?_
        refine W.p O.ixR ?_
        refine W.p (O.ldA ([] : List UInt8) (h := fun hg => by first | omega | (simp only [cond_true, cond_false, Bool.true_and, Bool.and_eq_true, Bool.not_eq_true', decide_eq_true_eq, decide_eq_false_iff_not, Bool.or_eq_false_iff, Bool.cond_true_left] at *; omega))) ?_
        refine W.p O.mv ?_
        refine W.p O.addS ?_
        refine W.p O.ixR ?_
        refine W.stA (f := kS) _ (vt rfl) (vt rfl) rfl rfl (by omega) ?_
        refine WL.nil (Q.bn (Q.tn ?_))
        refine CW.region ?_
        refine W.p O.mv ?_
        first | refine W.p O.addN ?_ | refine W.p O.add ?_
        refine W.p O.as ?_
        refine WL.nil (Q.tn ?_)
        refine ⟨(_, _, _, _, _, _, _, _), ?_, ?_, (by repeat (first | exact trivial | refine ⟨rfl, ?_⟩ | refine ⟨by (simp only [List.length_set]; rfl), ?_⟩)), (by repeat (first | exact List.Sublist.refl _ | exact List.sublist_append_left _ _ | exact List.nil_sublist _ | refine List.Sublist.append (List.Sublist.refl _) ?_ | apply List.Sublist.cons_cons | apply List.Sublist.cons | refine List.Sublist.trans ?_ (List.sublist_append_right _ _)))⟩
        · try dsimp only
          refine ⟨by omega, by omega, by omega, ?_, by assumption, by simp only [List.length_append, List.length_cons, List.length_nil]; omega⟩
          have hs := sp_step (k := ((ys.getD i.toNat 0) % 4)) (t := ((xs.getD i.toNat []).take (min ((xs.getD i.toNat []).length : Int) 40).toNat)) hS (by omega) htl
          rw [if_neg (by simpa using hc4)] at hs
          have e : s ++ spB ((ys.getD i.toNat 0) % 4) ((xs.getD i.toNat []).take (min ((xs.getD i.toNat []).length : Int) 40).toNat) = s ++ [byteOf (20 + ((ys.getD i.toNat 0) % 4)), byteOf (((xs.getD i.toNat []).take (min ((xs.getD i.toNat []).length : Int) 40).toNat).length : Int)] ++ ((xs.getD i.toNat []).take (min ((xs.getD i.toNat []).length : Int) 40).toNat) := by simp [spB]
          rw [e] at hs; simp only [Nat.mul_one]; exact hs
        · try dsimp only
          omega
      try simp only [Bool.cond_true_left, Bool.cond_false_right, Bool.or_eq_true, Bool.or_eq_false_iff, Bool.and_eq_true, Bool.and_eq_false_iff, decide_eq_true_eq, decide_eq_false_iff_not, Bool.not_eq_true', Bool.not_eq_false'] at hc4
      refine CW.skip (Q.tn ?_)
      refine CW.seq ?_
      refine CW.region ?_
      refine W.p O.mv ?_
      refine W.p O.ixR ?_
      refine W.stA _ (vt rfl) (vt rfl) rfl rfl (by omega) ?_
      refine WL.nil (Q.tn ?_)
      refine CW.region ?_
      refine W.p O.mv ?_
      refine W.p O.mv ?_
      refine W.p O.ixR ?_
      refine W.p (O.ldA ([] : List UInt8) (h := fun hg => by first | omega | (simp only [cond_true, cond_false, Bool.true_and, Bool.and_eq_true, Bool.not_eq_true', decide_eq_true_eq, decide_eq_false_iff_not, Bool.or_eq_false_iff, Bool.cond_true_left] at *; omega))) ?_
      refine W.p O.mv ?_
      refine W.p O.addS ?_
      refine W.p O.ixR ?_
      refine W.stA (f := kS) _ (vt rfl) (vt rfl) rfl rfl (by omega) ?_
      refine WL.nil (Q.bn (Q.tn ?_))
      refine CW.region ?_
      refine W.p O.mv ?_
      first | refine W.p O.addN ?_ | refine W.p O.add ?_
      refine W.p O.as ?_
      refine WL.nil (Q.tn ?_)
      refine ⟨(_, _, _, _, _, _, _, _), ?_, ?_, (by repeat (first | exact trivial | refine ⟨rfl, ?_⟩ | refine ⟨by (simp only [List.length_set]; rfl), ?_⟩)), (by repeat (first | exact List.Sublist.refl _ | exact List.sublist_append_left _ _ | exact List.nil_sublist _ | refine List.Sublist.append (List.Sublist.refl _) ?_ | apply List.Sublist.cons_cons | apply List.Sublist.cons | refine List.Sublist.trans ?_ (List.sublist_append_right _ _)))⟩
      · try dsimp only
        refine ⟨by omega, by omega, by omega, ?_, by assumption, by simp only [List.length_append, List.length_cons, List.length_nil]; omega⟩
        have hs := sp_step (k := ((ys.getD i.toNat 0) % 4)) (t := ((xs.getD i.toNat []).take (min ((xs.getD i.toNat []).length : Int) 40).toNat)) hS (by omega) htl
        rw [if_pos (by simpa using hc4)] at hs
        have e : s ++ spB ((ys.getD i.toNat 0) % 4) ((xs.getD i.toNat []).take (min ((xs.getD i.toNat []).length : Int) 40).toNat) = s ++ [byteOf (20 + ((ys.getD i.toNat 0) % 4)), byteOf (((xs.getD i.toNat []).take (min ((xs.getD i.toNat []).length : Int) 40).toNat).length : Int)] ++ ((xs.getD i.toNat []).take (min ((xs.getD i.toNat []).length : Int) 40).toNat) := by simp [spB]
        rw [e] at hs; simp only [Nat.mul_one]; exact hs
      · try dsimp only
        omega
    try simp only [Bool.cond_true_left, Bool.cond_false_right, Bool.or_eq_true, Bool.or_eq_false_iff, Bool.and_eq_true, Bool.and_eq_false_iff, decide_eq_true_eq, decide_eq_false_iff_not, Bool.not_eq_true', Bool.not_eq_false'] at hc3
    have hle := hS.le 0 (by omega) (by omega)
    have hle2 : ((want[0]?.getD []).length : Int) ≤ 40 * i := by simpa using hle
    refine CW.skip (Q.tn ?_)
    refine CW.seq ?_
    refine CW.draw 12 rfl (by kernel_rfl) ?_
    refine WQ.p O.mv ?_
    refine WQ.p O.mv ?_
    refine WQ.p O.ixA ?_
    refine WQ.p O.ldE ?_
    refine WQ.p O.mv ?_
    refine WQ.p O.mv ?_
    refine WQ.p O.ixA ?_
    refine WQ.p O.ldE ?_
    refine WQ.p O.len ?_
    refine WQ.p O.min ?_
    refine WQ.p O.slcH ?_
    refine WQ.p O.as ?_
    refine WQ.nil ?_
    refine WL.nil (Q.tn ?_)
    refine CW.seq ?_
    refine CW.region ?_
    refine W.p O.mv ?_
    refine W.p O.mv ?_
    first | refine W.p O.addN ?_ | refine W.p O.add ?_
    refine W.p O.cvI8 ?_
    refine W.p O.mv ?_
    refine W.p O.len ?_
    refine W.p O.cvI8 ?_
    refine W.bs encB [_, _] rfl (PV.cons (vt rfl) (PV.cons (vt rfl) (PV.nil))) rfl rfl rfl (by decide) rfl fun b5 => ?_
    refine W.p (O.cvRow ⟨rfl, rfl⟩ (vt rfl) (by first | rfl | omega) (fun _ => ⟨_, rfl⟩)) ?_
    refine W.p O.addS ?_
    refine W.p O.mv ?_
    refine W.p O.addS ?_
    refine W.p O.as ?_
    refine WL.nil (Q.tn ?_)
    refine CW.seq ?_
    refine CW.seq ?_
    refine CW.region ?_
    refine W.p O.mv ?_
    refine W.p O.ixR ?_
    refine W.p (O.ldA false (h := fun hg => by first | omega | (simp only [cond_true, cond_false, Bool.true_and, Bool.and_eq_true, Bool.not_eq_true', decide_eq_true_eq, decide_eq_false_iff_not, Bool.or_eq_false_iff, Bool.cond_true_left] at *; omega))) ?_
    refine W.p O.nt ?_
    refine WL.nil (Q.tn ?_)
    refine CW.cond (vt rfl) (fun hc5 => ?_) (fun hc5 => ?_)
    · try simp only [Bool.cond_true_left, Bool.cond_false_right, Bool.or_eq_true, Bool.or_eq_false_iff, Bool.and_eq_true, Bool.and_eq_false_iff, decide_eq_true_eq, decide_eq_false_iff_not, Bool.not_eq_true', Bool.not_eq_false'] at hc5
      refine CW.region ?_
      refine W.p O.mv ?_
      refine W.p O.mv ?_
      refine W.bs encI [_] rfl (PV.cons (vt rfl) (PV.nil)) rfl rfl rfl (by decide) rfl fun b6 => ?_
      refine W.ap rfl (vt rfl) (vt rfl) (by first | rfl | omega) (by first | rfl | omega) rfl (by first | assumption | exact OwnOk.nil | exact OwnOk.lit) (by first | omega | (simp; omega)) fun o2 c2 sp2 ok2 ne2 gt2 => ?_
      have nk2 := ok2.nk; have le2 := ok2.2.2.1; try simp only [List.length_append, List.length_cons, List.length_nil] at le2
      refine W.p O.as ?_
      refine WL.nil (Q.tn ?_)
      refine CW.seq ?_
      refine CW.region ?_
      refine W.p O.mv ?_
      refine W.p O.ixR ?_
      refine W.stA _ (vt rfl) (vt rfl) rfl rfl (by omega) ?_
      refine WL.nil (Q.tn ?_)
      refine CW.region ?_
      refine W.p O.mv ?_
      refine W.p O.mv ?_
      refine W.p O.ixR ?_
      refine W.p (O.ldA ([] : List UInt8) (h := fun hg => by first | omega | (simp only [cond_true, cond_false, Bool.true_and, Bool.and_eq_true, Bool.not_eq_true', decide_eq_true_eq, decide_eq_false_iff_not, Bool.or_eq_false_iff, Bool.cond_true_left] at *; omega))) ?_
      refine W.p O.mv ?_
      refine W.p O.addS ?_
      refine W.p O.ixR ?_
      refine W.stA (f := kS) _ (vt rfl) (vt rfl) rfl rfl (by omega) ?_
      refine WL.nil (Q.bn (Q.tn ?_))
      refine CW.region ?_
      refine W.p O.mv ?_
      first | refine W.p O.addN ?_ | refine W.p O.add ?_
      refine W.p O.as ?_
      refine WL.nil (Q.tn ?_)
      refine ⟨(_, _, _, _, _, _, _, _), ?_, ?_, (by repeat (first | exact trivial | refine ⟨rfl, ?_⟩ | refine ⟨by (simp only [List.length_set]; rfl), ?_⟩)), (by repeat (first | exact List.Sublist.refl _ | exact List.sublist_append_left _ _ | exact List.nil_sublist _ | refine List.Sublist.append (List.Sublist.refl _) ?_ | apply List.Sublist.cons_cons | apply List.Sublist.cons | refine List.Sublist.trans ?_ (List.sublist_append_right _ _)))⟩
      · try dsimp only
        refine ⟨by omega, by omega, by omega, ?_, by assumption, by simp only [List.length_append, List.length_cons, List.length_nil]; omega⟩
        have hs := sp_step (k := 0) (t := ((xs.getD i.toNat []).take (min ((xs.getD i.toNat []).length : Int) 40).toNat)) hS (by omega) htl
        rw [if_neg (by simpa using hc5)] at hs
        have e : s ++ spB 0 ((xs.getD i.toNat []).take (min ((xs.getD i.toNat []).length : Int) 40).toNat) = s ++ [byteOf (20 + 0), byteOf (((xs.getD i.toNat []).take (min ((xs.getD i.toNat []).length : Int) 40).toNat).length : Int)] ++ ((xs.getD i.toNat []).take (min ((xs.getD i.toNat []).length : Int) 40).toNat) := by simp [spB]
        rw [e] at hs; simp only [Nat.mul_one]; exact hs
      · try dsimp only
        omega
    try simp only [Bool.cond_true_left, Bool.cond_false_right, Bool.or_eq_true, Bool.or_eq_false_iff, Bool.and_eq_true, Bool.and_eq_false_iff, decide_eq_true_eq, decide_eq_false_iff_not, Bool.not_eq_true', Bool.not_eq_false'] at hc5
    refine CW.skip (Q.tn ?_)
    refine CW.seq ?_
    refine CW.region ?_
    refine W.p O.mv ?_
    refine W.p O.ixR ?_
    refine W.stA _ (vt rfl) (vt rfl) rfl rfl (by omega) ?_
    refine WL.nil (Q.tn ?_)
    refine CW.region ?_
    refine W.p O.mv ?_
    refine W.p O.mv ?_
    refine W.p O.ixR ?_
    refine W.p (O.ldA ([] : List UInt8) (h := fun hg => by first | omega | (simp only [cond_true, cond_false, Bool.true_and, Bool.and_eq_true, Bool.not_eq_true', decide_eq_true_eq, decide_eq_false_iff_not, Bool.or_eq_false_iff, Bool.cond_true_left] at *; omega))) ?_
    refine W.p O.mv ?_
    refine W.p O.addS ?_
    refine W.p O.ixR ?_
    refine W.stA (f := kS) _ (vt rfl) (vt rfl) rfl rfl (by omega) ?_
    refine WL.nil (Q.bn (Q.tn ?_))
    refine CW.region ?_
    refine W.p O.mv ?_
    first | refine W.p O.addN ?_ | refine W.p O.add ?_
    refine W.p O.as ?_
    refine WL.nil (Q.tn ?_)
    refine ⟨(_, _, _, _, _, _, _, _), ?_, ?_, (by repeat (first | exact trivial | refine ⟨rfl, ?_⟩ | refine ⟨by (simp only [List.length_set]; rfl), ?_⟩)), (by repeat (first | exact List.Sublist.refl _ | exact List.sublist_append_left _ _ | exact List.nil_sublist _ | refine List.Sublist.append (List.Sublist.refl _) ?_ | apply List.Sublist.cons_cons | apply List.Sublist.cons | refine List.Sublist.trans ?_ (List.sublist_append_right _ _)))⟩
    · try dsimp only
      refine ⟨by omega, by omega, by omega, ?_, by assumption, by simp only [List.length_append, List.length_cons, List.length_nil]; omega⟩
      have hs := sp_step (k := 0) (t := ((xs.getD i.toNat []).take (min ((xs.getD i.toNat []).length : Int) 40).toNat)) hS (by omega) htl
      rw [if_pos (by simpa using hc5)] at hs
      have e : s ++ spB 0 ((xs.getD i.toNat []).take (min ((xs.getD i.toNat []).length : Int) 40).toNat) = s ++ [byteOf (20 + 0), byteOf (((xs.getD i.toNat []).take (min ((xs.getD i.toNat []).length : Int) 40).toNat).length : Int)] ++ ((xs.getD i.toNat []).take (min ((xs.getD i.toNat []).length : Int) 40).toNat) := by simp [spB]
      rw [e] at hs; simp only [Nat.mul_one]; exact hs
    · try dsimp only
      omega
  try simp only [Bool.cond_true_left, Bool.cond_false_right, Bool.or_eq_true, Bool.or_eq_false_iff, Bool.and_eq_true, Bool.and_eq_false_iff, decide_eq_true_eq, decide_eq_false_iff_not, Bool.not_eq_true', Bool.not_eq_false'] at hc2
  refine CW.exit (Q.te (Q.te (Q.bx (Q.tn ?_))))
  refine CW.seq ?_
  refine CW.region ?_
  refine W.p O.as ?_
  refine WL.nil (Q.tn ?_)
  refine CW.seq ?_
  refine CW.seq ?_
  refine CW.region ?_
  refine W.p O.as ?_
  refine WL.nil (Q.tn ?_)
  refine CW.block ?_
  refine CW.loop (X := Int × (List Opt) × (Option Nat) × Nat × (List Value)) (fun ⟨m, os, p2, q2, r2⟩ => [(5, true, .string (S s)), (6, true, .pointer (some ⟨b1, 0, none⟩)), (8, true, .slice (oa p1) row.length q1), (12, true, .slice (oa p2) os.length q2), (13, true, .int .i64 m)]) (fun ⟨m, os, p2, q2, r2⟩ => rowL p2 42 (flat encO os r2) ++ (rowL p1 3 (flat encI row r1) ++ [(b1, .cells (want.map kS).toArray 48 (0, 0))])) (fun ⟨m, os, p2, q2, r2⟩ => 0 ≤ m ∧ m ≤ row.length ∧ OwnOk p2 q2 2 os.length r2.length ∧ os = (row.take m.toNat).map (spF want)) (fun ⟨m, os, p2, q2, r2⟩ => (row.length - m).toNat) (0, [], none, 0, []) ?_ (by repeat (first | exact trivial | refine ⟨rfl, ?_⟩ | refine ⟨by (simp only [List.length_set]; rfl), ?_⟩)) (by show (rowL p1 3 (flat encI row r1) ++ [((b1, Obj.cells (want.map kS).toArray 48 (0, 0)) : Nat × Obj)]).Sublist _; exact List.Sublist.append (List.Sublist.refl _) (List.Sublist.cons _ (List.Sublist.refl _))) ?_
  · exact ⟨by omega, by omega, OwnOk.nil, rfl⟩
  rintro ⟨m, os, p2, q2, r2⟩ hI
  try dsimp only at hI ⊢
  obtain ⟨g0, g1, hk2, hos⟩ := hI
  have nk2 := hk2.nk
  have hol : os.length ≤ 12 := by rw [hos, List.length_map, List.length_take]; omega
  have hrg : m < row.length → 0 ≤ row.getD m.toNat 0 ∧ row.getD m.toNat 0 < 4 := fun h => hS.rg _ (mem_at2 0 g0 h)
  refine CW.seq ?_
  refine CW.seq ?_
  refine CW.region ?_
  refine W.p O.mv ?_
  refine W.p O.mv ?_
  refine W.p O.lenL ?_
  refine W.p O.lss ?_
  refine WL.nil (Q.tn ?_)
  refine CW.cond (vt rfl) (fun hc6 => ?_) (fun hc6 => ?_)
  · try simp only [Bool.cond_true_left, Bool.cond_false_right, Bool.or_eq_true, Bool.or_eq_false_iff, Bool.and_eq_true, Bool.and_eq_false_iff, decide_eq_true_eq, decide_eq_false_iff_not, Bool.not_eq_true', Bool.not_eq_false'] at hc6
    refine CW.skip (Q.tn ?_)
    refine CW.seq ?_
    refine CW.block ?_
    refine CW.drawH (rowL p1 3 (flat encI row r1) ++ [(b1, .cells (want.map kS).toArray 48 (0, 0))]) rfl ?_
    refine RH.qa 0 rfl (O.mv) ?_
    refine RH.qa 1 rfl (O.mv) ?_
    refine RH.qa 2 rfl (O.mv) ?_
    refine RH.qa 3 rfl (O.ixA) ?_
    refine RH.qa 4 rfl (O.ldE) ?_
    first | refine RH.qa 5 rfl (O.addN) ?_ | refine RH.qa 5 rfl (O.add) ?_
    refine RH.qa 6 rfl (O.mv) ?_
    refine RH.qa 7 rfl (O.mv) ?_
    refine RH.qa 8 rfl (O.ixA) ?_
    refine RH.qa 9 rfl (O.ldE) ?_
    refine RH.qa 10 rfl (O.ixR) ?_
    refine RH.qa 11 rfl (O.ldA ([] : List UInt8) (h := fun hg => by first | omega | (simp only [cond_true, cond_false, Bool.true_and, Bool.and_eq_true, Bool.not_eq_true', decide_eq_true_eq, decide_eq_false_iff_not, Bool.or_eq_false_iff, Bool.cond_true_left] at *; omega))) ?_
    refine RH.qa 12 rfl (O.bd (hv := PV.cons (vt rfl) (PV.cons (vt rfl) (PV.nil)))) ?_
    refine RH.one (i := 13) (fun _ _ h => h) (by kernel_rfl) rfl ?_
    refine W.bs encO [⟨_, _⟩] rfl (PV.cons (vt rfl) (PV.nil)) rfl rfl rfl (by decide) rfl fun b7 => ?_
    refine WL.nilQn ⟨(by repeat (first | exact List.nil_sublist _ | exact List.Sublist.refl _ | exact List.sublist_append_left _ _ | exact List.sublist_append_right _ _ | apply List.Sublist.cons_cons | apply List.Sublist.cons | refine List.Sublist.trans ?_ (List.sublist_append_right _ _))), ?_⟩
    refine RH.one (i := 14) (fun _ _ h => h) (by kernel_rfl) rfl ?_
    refine W.ap rfl (vt rfl) (vt rfl) (by first | rfl | omega) (by first | rfl | omega) rfl (by first | assumption | exact OwnOk.nil | exact OwnOk.lit) (by first | omega | (simp; omega)) fun o3 c3 sp3 ok3 ne3 gt3 => ?_
    have nk3 := ok3.nk; have le3 := ok3.2.2.1; try simp only [List.length_append, List.length_cons, List.length_nil] at le3
    refine WL.nilQn ⟨(by repeat (first | exact List.nil_sublist _ | exact List.Sublist.refl _ | exact List.sublist_append_left _ _ | exact List.sublist_append_right _ _ | apply List.Sublist.cons_cons | apply List.Sublist.cons | refine List.Sublist.trans ?_ (List.sublist_append_right _ _))), ?_⟩
    refine RH.qa 15 rfl (O.as) ?_
    refine RH.done (by kernel_rfl) (Q.bn (Q.tn ?_))
    refine CW.region ?_
    refine W.p O.mv ?_
    first | refine W.p O.addN ?_ | refine W.p O.add ?_
    refine W.p O.as ?_
    refine WL.nil (Q.tn ?_)
    refine ⟨(_, _, _, _, _), ?_, ?_, (by repeat (first | exact trivial | refine ⟨rfl, ?_⟩ | refine ⟨by (simp only [List.length_set]; rfl), ?_⟩)), (by repeat (first | exact List.Sublist.refl _ | exact List.sublist_append_left _ _ | exact List.nil_sublist _ | refine List.Sublist.append (List.Sublist.refl _) ?_ | apply List.Sublist.cons_cons | apply List.Sublist.cons | refine List.Sublist.trans ?_ (List.sublist_append_right _ _)))⟩
    · try dsimp only
      refine ⟨by omega, by omega, by assumption, ?_⟩
      rw [take_at' 0 g0 hc6, List.map_append, ← hos]; simp only [Nat.mul_one]; rfl
    · try dsimp only
      omega
  try simp only [Bool.cond_true_left, Bool.cond_false_right, Bool.or_eq_true, Bool.or_eq_false_iff, Bool.and_eq_true, Bool.and_eq_false_iff, decide_eq_true_eq, decide_eq_false_iff_not, Bool.not_eq_true', Bool.not_eq_false'] at hc6
  have hg := sp_get hS h12
  have hos2 : os = row.map (spF want) := by rw [hos, List.take_of_length_le (by omega)]
  have hgl : (getR s).1.length ≤ 100 := by rw [hg.1, List.length_map]; omega
  have hgl2 : (getR (s ++ [255, 32])).1.length ≤ 100 := by rw [hg.2, List.length_map]; omega
  refine CW.exit (Q.te (Q.te (Q.bx (Q.tn ?_))))
  refine CW.seq ?_
  refine CW.region ?_
  refine W.p O.mv ?_
  refine W.callN (first := []) (cap := []) rfl (vt rfl) (AV.cons (vt rfl) (AV.nil)) (fun w hu => opts_Get s w (by omega)) ?_; rintro _ _ ⟨_, rfl, o8, c8, sp8, rfl, ok8, rfl⟩; have nk8 := ok8.nk
  refine W.p O.mv ?_
  first | refine W.p O.extL ?_ | refine W.p O.ext ?_
  first | refine W.p O.extL ?_ | refine W.p O.ext ?_
  refine W.p O.as ?_
  refine W.p O.as ?_
  refine WL.nil (Q.tn ?_)
  refine CW.seq ?_
  refine CW.region ?_
  refine W.p O.mv ?_
  refine W.p O.addS ?_
  refine W.callN (first := []) (cap := []) rfl (vt rfl) (AV.cons (vt rfl) (AV.nil)) (fun w hu => opts_Get (s ++ [255, 32]) w (by simp only [List.length_append, List.length_cons, List.length_nil]; omega)) ?_; rintro _ _ ⟨_, rfl, o9, c9, sp9, rfl, ok9, rfl⟩; have nk9 := ok9.nk
  refine W.p O.mv ?_
  first | refine W.p O.extL ?_ | refine W.p O.ext ?_
  first | refine W.p O.extL ?_ | refine W.p O.ext ?_
  refine W.p O.as ?_
  refine W.p O.as ?_
  refine WL.nil (Q.tn ?_)
  refine CW.seq ?_
  refine CW.region ?_
  refine W.p O.mv ?_
  refine W.q (O.call ⟨rfl, rfl⟩ (AV.cons (vt rfl) (AV.nil)) (fun _ w hw => law0_Num _ w)) ?_
  refine W.p O.eqI ?_
  refine W.p O.mv ?_
  refine W.p O.mv ?_
  refine W.p O.mv ?_
  refine W.q (O.call ⟨rfl, rfl⟩ (AV.cons (vs rfl) (AV.cons (vs rfl) (AV.nil))) (fun _ w hw => sameOptions _ _ _ _ _ _ w (RowL.h _ hw) (RowL.h _ hw) (by omega))) ?_
  refine W.p O.pkB ?_
  refine W.p O.mv ?_
  refine W.p O.mv ?_
  refine W.q (O.call ⟨rfl, rfl⟩ (AV.cons (vs rfl) (AV.nil)) (fun _ w hw => law0_Num _ w)) ?_
  refine W.p O.eqI ?_
  refine W.p O.pkB ?_
  refine W.p O.mv ?_
  refine W.p O.mv ?_
  refine W.p O.mv ?_
  refine W.q (O.call ⟨rfl, rfl⟩ (AV.cons (vs rfl) (AV.cons (vs rfl) (AV.nil))) (fun _ w hw => sameOptions _ _ _ _ _ _ w (RowL.h _ hw) (RowL.h _ hw) (by omega))) ?_
  refine W.p O.pkB ?_
  refine W.p O.as ?_
  refine WL.nil (Q.tn ?_)
  refine CW.ret ?_
  refine ⟨_, [], (RVs.tmp rfl RVs.nil), List.nil_sublist _, ?_⟩
  refine ⟨?_, rfl⟩
  rw [hg.1, hg.2, hos2]; simp [oneOr]
end Go.Proofs.Ytkjcmdgideddnaa
