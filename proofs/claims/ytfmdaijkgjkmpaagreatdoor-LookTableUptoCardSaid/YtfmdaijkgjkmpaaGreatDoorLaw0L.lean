/- Several texts in one (Law0L). Their conditions are their own. -/
import Derived.Test.YtfmdaijkgjkmpaaGreatDoorLaw0
import Derived.Test.YtfmdaijkgjkmpaaGreatDoorZnA
set_option linter.unusedVariables false
set_option linter.unusedSimpArgs false
namespace Go.Proofs.YtfmdaijkgjkmpaaGreatDoor
open Go Go.RowKit
abbrev mkLeases : Lz := ⟨77777, 0, [], 0, [], false⟩
set_option maxRecDepth 100000 in
theorem copyLeases (xs : List Lz) (a : Option Addr) (c : Nat) (w : World) (h : In w a (xs.flatMap encL)) (hn : xs.length ≤ 1000000000) : Fn Tryz.prog 31 [.slice a xs.length c] w [] (Fresh encL 71 6 xs) := by
 have row := Row.ofE h
 refine Fn.enter Tryz.func31 rfl rfl rfl rfl (Holds.nil w) ?_
 refine CW.seq ?_
 refine CW.region ?_
 refine W.p O.as ?_
 refine WL.nil (Q.tn ?_)
 refine CW.seq ?_
 refine CW.region ?_
 refine W.bs0 encL rfl fun b1 => ?_
 refine W.go ?_
 refine W.ap rfl (vt rfl) (vt rfl) (by first | rfl | omega) (by first | rfl | omega) rfl (by first | assumption | exact OwnOk.nil | exact OwnOk.lit) (by first | omega | (simp; omega)) fun o1 c1 sp1 ok1 ne1 gt1 => ?_
 have nk1 := ok1.nk; have le1 := ok1.2.2.1; try simp only [List.length_append, List.length_cons, List.length_nil] at le1
 refine W.go ?_
 refine ⟨_, rowL o1 71 (flat encL xs sp1), (RVs.tmp rfl RVs.nil), (by repeat (first | exact List.Sublist.refl _ | exact hSub _ | exact List.sublist_append_left _ _ | exact List.nil_sublist _ | refine List.Sublist.append (List.Sublist.refl _) ?_ | apply List.Sublist.cons_cons | apply List.Sublist.cons | exact List.sublist_append_left _ _ | refine List.Sublist.trans ?_ (List.sublist_append_right _ _))), ?_⟩
 exact ⟨o1, c1, sp1, rfl, ok1, rfl⟩
set_option maxRecDepth 100000 in
theorem lendLeases (xs : List Lz) (a : Option Addr) (c : Nat) (w : World) (h : In w a (xs.flatMap encL)) (hn : xs.length ≤ 1000000000) : Fn Tryz.prog 10 [.slice a xs.length c] w [] (Lent encL 71 6 xs mkLeases) := by
 have row := Row.ofE h
 refine Fn.enter Tryz.func10 rfl rfl rfl rfl (Holds.nil w) ?_
 refine W.go ?_
 refine W.callN (first := []) (cap := []) rfl (vt rfl) (AV.cons (vt rfl) (AV.nil)) (fun w hu => copyLeases xs a c w (row.h _ w hu) hn) ?_; rintro _ _ ⟨o9, c9, sp9, rfl, ok9, rfl⟩; have nk9 := ok9.nk
 refine W.p (O.bd (hv := PV.cons (vt rfl) (PV.nil))) ?_
 refine W.p (O.bd (hv := PV.cons (vt rfl) (PV.nil))) ?_
 refine W.bs encL [mkLeases, mkLeases] rfl (PV.cons (vt rfl) (PV.cons (vt rfl) (PV.nil))) rfl rfl rfl (by decide) rfl fun b1 => ?_
 refine W.ap rfl (vt rfl) (vt rfl) (by first | rfl | omega) (by first | rfl | omega) rfl (by first | assumption | exact OwnOk.nil | exact OwnOk.lit) (by first | omega | (simp; omega)) fun o1 c1 sp1 ok1 ne1 gt1 => ?_
 have nk1 := ok1.nk; have le1 := ok1.2.2.1; try simp only [List.length_append, List.length_cons, List.length_nil] at le1
 refine W.go ?_
 refine W.p O.slH ?_
 refine W.go ?_
 refine ⟨_, rowL o1 71 (flat encL (xs ++ [mkLeases, mkLeases]) sp1), (RVs.tmp rfl RVs.nil), (by repeat (first | exact List.Sublist.refl _ | exact hSub _ | exact List.sublist_append_left _ _ | exact List.nil_sublist _ | refine List.Sublist.append (List.Sublist.refl _) ?_ | apply List.Sublist.cons_cons | apply List.Sublist.cons | exact List.sublist_append_left _ _ | refine List.Sublist.trans ?_ (List.sublist_append_right _ _))), ?_⟩
 obtain ⟨b, rfl⟩ := ne1 (by simp)
 exact ⟨b, c1, sp1, rfl, ok1, rfl⟩
set_option maxRecDepth 100000 in
theorem sameLeases (xs ys : List Lz) (a b : Option Addr) (c c' : Nat) (w : World) (h : In w a (xs.flatMap encL)) (h' : In w b (ys.flatMap encL)) (hn : xs.length ≤ 1000000000) : Fn Tryz.prog 47 [.slice a xs.length c, .slice b ys.length c'] w [] fun v L' => v = .bool (decide (xs = ys)) ∧ L' = [] := by
 have row := Row.ofE h
 have row' := Row.ofE h'
 refine Fn.enter Tryz.func47 rfl rfl rfl rfl (Holds.nil w) ?_
 refine W.go ?_
 refine CW.cond (vt rfl) (fun hc1 => ?_) (fun hc1 => ?_)
 ·try simp only [sk] at hc1
  refine W.go ?_
  refine ⟨_, [], (RVs.tmp rfl RVs.nil), List.nil_sublist _, ?_⟩
  refine ⟨congrArg Value.bool ?_, rfl⟩
  rw [eq_comm, decide_eq_false_iff_not]; intro e; subst e; exact hc1 rfl
 try simp only [sk] at hc1
 refine W.go ?_
 refine CW.loopA (X := Int) (fun i => [(0, true, .slice a xs.length c), (1, true, .slice b ys.length c'), (5, true, .int .i64 i)]) (fun i => []) (fun i => 0 ≤ i ∧ i ≤ xs.length ∧ xs.take i.toNat = ys.take i.toNat) (fun i => (xs.length - i).toNat) (0) ?_ ?_
 ·exact ⟨by omega, by omega, rfl⟩
 rintro i hI
 try dsimp only at hI ⊢
 obtain ⟨h0, h1, hr⟩ := hI
 refine W.go ?_
 refine CW.cond (vt rfl) (fun hc2 => ?_) (fun hc2 => ?_)
 ·try simp only [sk] at hc2
  refine W.go ?_
  refine CW.draw 9 rfl (by kernel_rfl) ?_
  refine WQ.p O.mv ?_
  refine WQ.p O.mv ?_
  refine WQ.p O.ixA ?_
  refine WQ.p O.ldsE ?_
  refine WQ.p O.mv ?_
  refine WQ.p O.mv ?_
  refine WQ.p O.ixA ?_
  refine WQ.p O.ldsE ?_
  refine WQ.p O.neT ?_
  refine WQ.nil ?_
  refine WL.nil (Q.tn ?_)
  refine CW.cond (vt rfl) (fun hc3 => ?_) (fun hc3 => ?_)
  ·try simp only [sk] at hc3
   refine W.go ?_
   refine ⟨_, [], (RVs.tmp rfl RVs.nil), List.nil_sublist _, ?_⟩
   refine ⟨congrArg Value.bool ?_, rfl⟩
   rw [eq_comm, decide_eq_false_iff_not]; intro e; subst e; simp at hc3
  try simp only [sk] at hc3
  refine W.go ?_
  refine nextA (_) ?_ ?_
  ·try dsimp only
   refine ⟨by omega, by omega, ?_⟩
   rw [take_at' dL h0 (by omega), take_at' dL h0 (by omega), hr]; congr 2
   generalize xs.getD i.toNat dL = p at *; generalize ys.getD i.toNat dL = q at *; cases p; cases q; simp_all
  ·try dsimp only
   omega
 try simp only [sk] at hc2
 refine W.go ?_
 refine ⟨_, [], (RVs.tmp rfl RVs.nil), List.nil_sublist _, ?_⟩
 refine ⟨congrArg Value.bool ?_, rfl⟩
 have e1 : xs.take i.toNat = xs := List.take_of_length_le (by omega)
 have e2 : ys.take i.toNat = ys := List.take_of_length_le (by omega)
 rw [e1, e2] at hr; rw [hr]; simp
set_option maxRecDepth 100000 in
theorem keptLeases (xs : List Lz) (b : Nat) (a : Option Addr) (c c' : Nat) (w : World) (h : In w (oa (some b)) ((xs ++ [mkLeases, mkLeases]).flatMap encL)) (h' : In w a (xs.flatMap encL)) (hn : xs.length ≤ 1000000000) (hc : xs.length + 2 ≤ c) : Fn Tryz.prog 20 [.slice (oa (some b)) xs.length c, .slice a xs.length c'] w [] fun v L' => v = .bool true ∧ L' = [] := by
 have row := Row.ofE h
 have gm := getD_mid dL xs mkLeases mkLeases
 refine Fn.enter Tryz.func20 rfl rfl rfl rfl (Holds.nil w) ?_
 refine W.go ?_
 refine W.p O.slH ?_
 refine W.go ?_
 refine W.q (O.call ⟨rfl, rfl⟩ (AV.cons (vt rfl) (AV.cons (vt rfl) (AV.nil))) (fun _ w hw => sameLeases xs xs (oa (some b)) a c c' w (by have := row.h _ w hw; rw [List.flatMap_append] at this; exact this.pre) ((Row.ofE h').h _ w hw) hn)) ?_
 refine W.go ?_
 refine W.p (O.bd (hv := PV.cons (vt rfl) (PV.nil))) ?_
 refine W.go ?_
 refine W.p (O.bd (hv := PV.cons (vt rfl) (PV.nil))) ?_
 refine W.go ?_
 refine ⟨_, [], (RVs.tmp rfl RVs.nil), List.nil_sublist _, ?_⟩
 refine ⟨congrArg Value.bool ?_, rfl⟩
 simp only [Int.toNat_natCast, show ((xs.length : Int) + 1).toNat = xs.length + 1 by omega, gm.1, gm.2]
 simp
set_option maxRecDepth 100000 in
theorem sameReserves (xs ys : List Rs) (a b : Option Addr) (c c' : Nat) (w : World) (h : In w a (xs.flatMap encRs)) (h' : In w b (ys.flatMap encRs)) (hn : xs.length ≤ 1000000000) : Fn Tryz.prog 46 [.slice a xs.length c, .slice b ys.length c'] w [] fun v L' => v = .bool (decide (xs = ys)) ∧ L' = [] := by
 have row := Row.ofE h
 have row' := Row.ofE h'
 refine Fn.enter Tryz.func46 rfl rfl rfl rfl (Holds.nil w) ?_
 refine W.go ?_
 refine CW.cond (vt rfl) (fun hc1 => ?_) (fun hc1 => ?_)
 ·try simp only [sk] at hc1
  refine W.go ?_
  refine ⟨_, [], (RVs.tmp rfl RVs.nil), List.nil_sublist _, ?_⟩
  refine ⟨congrArg Value.bool ?_, rfl⟩
  rw [eq_comm, decide_eq_false_iff_not]; intro e; subst e; exact hc1 rfl
 try simp only [sk] at hc1
 refine W.go ?_
 refine CW.loopA (X := Int) (fun i => [(0, true, .slice a xs.length c), (1, true, .slice b ys.length c'), (5, true, .int .i64 i)]) (fun i => []) (fun i => 0 ≤ i ∧ i ≤ xs.length ∧ xs.take i.toNat = ys.take i.toNat) (fun i => (xs.length - i).toNat) (0) ?_ ?_
 ·exact ⟨by omega, by omega, rfl⟩
 rintro i hI
 try dsimp only at hI ⊢
 obtain ⟨h0, h1, hr⟩ := hI
 refine W.go ?_
 refine CW.cond (vt rfl) (fun hc2 => ?_) (fun hc2 => ?_)
 ·try simp only [sk] at hc2
  refine W.go ?_
  refine CW.draw 9 rfl (by kernel_rfl) ?_
  refine WQ.p O.mv ?_
  refine WQ.p O.mv ?_
  refine WQ.p O.ixA ?_
  refine WQ.p O.ldsE ?_
  refine WQ.p O.mv ?_
  refine WQ.p O.mv ?_
  refine WQ.p O.ixA ?_
  refine WQ.p O.ldsE ?_
  refine WQ.p O.neT ?_
  refine WQ.nil ?_
  refine WL.nil (Q.tn ?_)
  refine CW.cond (vt rfl) (fun hc3 => ?_) (fun hc3 => ?_)
  ·try simp only [sk] at hc3
   refine W.go ?_
   refine ⟨_, [], (RVs.tmp rfl RVs.nil), List.nil_sublist _, ?_⟩
   refine ⟨congrArg Value.bool ?_, rfl⟩
   rw [eq_comm, decide_eq_false_iff_not]; intro e; subst e; simp at hc3
  try simp only [sk] at hc3
  refine W.go ?_
  refine nextA (_) ?_ ?_
  ·try dsimp only
   refine ⟨by omega, by omega, ?_⟩
   rw [take_at' dRz h0 (by omega), take_at' dRz h0 (by omega), hr]; congr 2
   generalize xs.getD i.toNat dRz = p at *; generalize ys.getD i.toNat dRz = q at *; cases p; cases q; simp_all
  ·try dsimp only
   omega
 try simp only [sk] at hc2
 refine W.go ?_
 refine ⟨_, [], (RVs.tmp rfl RVs.nil), List.nil_sublist _, ?_⟩
 refine ⟨congrArg Value.bool ?_, rfl⟩
 have e1 : xs.take i.toNat = xs := List.take_of_length_le (by omega)
 have e2 : ys.take i.toNat = ys := List.take_of_length_le (by omega)
 rw [e1, e2] at hr; rw [hr]; simp
end Go.Proofs.YtfmdaijkgjkmpaaGreatDoor

set_option linter.unusedVariables false
set_option linter.unusedSimpArgs false
namespace Go.Proofs.YtfmdaijkgjkmpaaGreatDoor
open Go Go.RowKit
set_option maxRecDepth 100000 in
theorem sameInts (xs ys : List Int) (a b : Option Addr) (c c' : Nat) (w : World) (h : In w a (xs.flatMap encI)) (h' : In w b (ys.flatMap encI)) (hn : xs.length ≤ 1000000000) : Fn Tryz.prog 45 [.slice a xs.length c, .slice b ys.length c'] w [] fun v L' => v = .bool (decide (xs = ys)) ∧ L' = [] := by
 have row := Row.ofE (dv := (0 : Int)) h
 have row' := Row.ofE (dv := (0 : Int)) h'
 refine Fn.enter Tryz.func45 rfl rfl rfl rfl (Holds.nil w) ?_
 refine W.go ?_
 refine CW.cond (vt rfl) (fun hc1 => ?_) (fun hc1 => ?_)
 ·try simp only [sk] at hc1
  refine W.go ?_
  refine ⟨_, [], (RVs.tmp rfl RVs.nil), List.nil_sublist _, ?_⟩
  refine ⟨congrArg Value.bool ?_, rfl⟩
  rw [eq_comm, decide_eq_false_iff_not]; intro e; subst e; exact hc1 rfl
 try simp only [sk] at hc1
 refine W.go ?_
 refine CW.loopA (X := Int) (fun i => [(0, true, .slice a xs.length c), (1, true, .slice b ys.length c'), (5, true, .int .i64 i)]) (fun i => []) (fun i => 0 ≤ i ∧ i ≤ xs.length ∧ xs.take i.toNat = ys.take i.toNat) (fun i => (xs.length - i).toNat) (0) ?_ ?_
 ·exact ⟨by omega, by omega, rfl⟩
 rintro i hI
 try dsimp only at hI ⊢
 obtain ⟨h0, h1, hr⟩ := hI
 refine W.go ?_
 refine CW.cond (vt rfl) (fun hc2 => ?_) (fun hc2 => ?_)
 ·try simp only [sk] at hc2
  refine W.go ?_
  refine CW.draw 9 rfl (by kernel_rfl) ?_
  refine WQ.p O.mv ?_
  refine WQ.p O.mv ?_
  refine WQ.p O.ixA ?_
  refine WQ.p O.ldE ?_
  refine WQ.p O.mv ?_
  refine WQ.p O.mv ?_
  refine WQ.p O.ixA ?_
  refine WQ.p O.ldE ?_
  refine WQ.p O.neI ?_
  refine WQ.nil ?_
  refine WL.nil (Q.tn ?_)
  refine CW.cond (vt rfl) (fun hc3 => ?_) (fun hc3 => ?_)
  ·try simp only [sk] at hc3
   refine W.go ?_
   refine ⟨_, [], (RVs.tmp rfl RVs.nil), List.nil_sublist _, ?_⟩
   refine ⟨congrArg Value.bool ?_, rfl⟩
   rw [eq_comm, decide_eq_false_iff_not]; intro e; subst e; simp at hc3
  try simp only [sk] at hc3
  refine W.go ?_
  refine nextA (_) ?_ ?_
  ·try dsimp only
   refine ⟨by omega, by omega, ?_⟩
   rw [take_at' 0 h0 (by omega), take_at' 0 h0 (by omega), hr]; congr 2 <;> omega
  ·try dsimp only
   omega
 try simp only [sk] at hc2
 refine W.go ?_
 refine ⟨_, [], (RVs.tmp rfl RVs.nil), List.nil_sublist _, ?_⟩
 refine ⟨congrArg Value.bool ?_, rfl⟩
 have e1 : xs.take i.toNat = xs := List.take_of_length_le (by omega)
 have e2 : ys.take i.toNat = ys := List.take_of_length_le (by omega)
 rw [e1, e2] at hr; rw [hr]; simp
structure CfLn (c : Cf) : Prop where
 hx : c.excl.length ≤ 1048576
 hr : c.resv.length ≤ 1048576
 hs : c.stat.length ≤ 1048576
theorem CfSz.ln {c : Cf} (h : CfSz c) : CfLn c := ⟨h.hx, h.hr, h.hs⟩
set_option maxRecDepth 100000 in
theorem sameConfig (c d : Cf) (e r s e' r' s' : Sl2) (w : World) (h : CfIn w c e r s) (h' : CfIn w d e' r' s') (hz : CfLn c) : Fn Tryz.prog 19 [vCf c e r s, vCf d e' r' s'] w [] fun v L' => v = .bool (decide (c = d)) ∧ L' = [] := by
 refine Fn.enter Tryz.func19 rfl rfl rfl rfl (Holds.nil w) ?_
 refine W.go ?_
 refine W.bx rfl (vt rfl) rfl fun b1 => ?_
 refine W.bx rfl (vt rfl) rfl fun b2 => ?_
 refine W.go ?_
 refine W.q (O.call ⟨rfl, rfl⟩ (AV.cons (vs rfl) (AV.cons (vs rfl) (AV.nil))) (fun _ w hw => sameInts c.excl d.excl _ _ _ _ w (h.hx.upd (L0 := []) hw) (h'.hx.upd (L0 := []) hw) (by have := hz.hx; omega))) ?_
 refine W.go ?_
 refine W.q (O.call ⟨rfl, rfl⟩ (AV.cons (vs rfl) (AV.cons (vs rfl) (AV.nil))) (fun _ w hw => sameReserves c.resv d.resv _ _ _ _ w (h.hr.upd (L0 := []) hw) (h'.hr.upd (L0 := []) hw) (by have := hz.hr; omega))) ?_
 refine W.go ?_
 refine W.q (O.call ⟨rfl, rfl⟩ (AV.cons (vs rfl) (AV.cons (vs rfl) (AV.nil))) (fun _ w hw => sameRRs c.stat d.stat _ _ _ _ w (h.hs.upd (L0 := []) hw) (h'.hs.upd (L0 := []) hw) (by have := hz.hs; omega))) ?_
 refine W.go ?_
 refine ⟨_, [], (RVs.tmp rfl RVs.nil), List.nil_sublist _, ?_⟩
 refine ⟨congrArg Value.bool ?_, rfl⟩
 clear h h' hz
 obtain ⟨a1, a2, a3, a4, a5, a6, a7⟩ := c
 obtain ⟨b1, b2, b3, b4, b5, b6, b7⟩ := d
 rw [Bool.eq_iff_iff]
 simp [and_assoc]
 try grind
set_option maxRecDepth 100000 in
theorem copyConfig (c : Cf) (e r s : Sl2) (w : World) (h : CfIn w c e r s) (hz : CfLn c) : Fn Tryz.prog 9 [vCf c e r s] w [] fun v L' => ∃ o1 c1 p1 o2 c2 p2 o3 c3 p3, v = vCf c (oa o1, c1) (oa o2, c2) (oa o3, c3) ∧ OwnOk o1 c1 1 c.excl.length (List.length p1) ∧ OwnOk o2 c2 2 c.resv.length (List.length p2) ∧ OwnOk o3 c3 7 c.stat.length (List.length p3) ∧ L' = rowL o3 58 (flat encR c.stat p3) ++ (rowL o2 107 (flat encRs c.resv p2) ++ rowL o1 3 (flat encI c.excl p1)) := by
 have rowx := Row.ofE (dv := (0 : Int)) h.hx
 have rowr := Row.ofE (dv := dRz) h.hr
 have rows := Row.ofE (dv := dR) h.hs
 obtain ⟨hz1, hz2, hz3⟩ := hz
 refine Fn.enter Tryz.func9 rfl rfl rfl rfl (Holds.nil w) ?_
 refine W.go ?_
 refine W.bx rfl (vt rfl) rfl fun b1 => ?_
 refine W.al rfl rfl fun b2 => ?_
 refine WL.nil (Q.tn ?_)
 refine CW.seq ?_
 refine CW.region ?_
 refine W.bs0 encI rfl fun b3 => ?_
 refine W.go ?_
 refine W.ap rfl (vt rfl) (vt rfl) (by first | rfl | omega) (by first | rfl | omega) rfl (by first | assumption | exact OwnOk.nil | exact OwnOk.lit) (by first | omega | (simp; omega)) fun o1 c1 sp1 ok1 ne1 gt1 => ?_
 have nk1 := ok1.nk; have le1 := ok1.2.2.1; try simp only [List.length_append, List.length_cons, List.length_nil] at le1
 refine W.go ?_
 first | refine W.st (vt rfl) (vt rfl) rfl ?_ | refine W.st (u := .slice _ _ _) (vt rfl) (vt rfl) rfl ?_
 refine WL.nil (Q.tn ?_)
 refine CW.seq ?_
 refine CW.region ?_
 refine W.bs0 encRs rfl fun b4 => ?_
 refine W.go ?_
 refine W.ap rfl (vt rfl) (vt rfl) (by first | rfl | omega) (by first | rfl | omega) rfl (by first | assumption | exact OwnOk.nil | exact OwnOk.lit) (by first | omega | (simp; omega)) fun o2 c2 sp2 ok2 ne2 gt2 => ?_
 have nk2 := ok2.nk; have le2 := ok2.2.2.1; try simp only [List.length_append, List.length_cons, List.length_nil] at le2
 refine W.go ?_
 first | refine W.st (vt rfl) (vt rfl) rfl ?_ | refine W.st (u := .slice _ _ _) (vt rfl) (vt rfl) rfl ?_
 refine WL.nil (Q.tn ?_)
 refine CW.seq ?_
 refine CW.region ?_
 refine W.bs0 encR rfl fun b5 => ?_
 refine W.go ?_
 refine W.ap rfl (vt rfl) (vt rfl) (by first | rfl | omega) (by first | rfl | omega) rfl (by first | assumption | exact OwnOk.nil | exact OwnOk.lit) (by first | omega | (simp; omega)) fun o3 c3 sp3 ok3 ne3 gt3 => ?_
 have nk3 := ok3.nk; have le3 := ok3.2.2.1; try simp only [List.length_append, List.length_cons, List.length_nil] at le3
 refine W.go ?_
 first | refine W.st (vt rfl) (vt rfl) rfl ?_ | refine W.st (u := .slice _ _ _) (vt rfl) (vt rfl) rfl ?_
 refine W.go ?_
 refine W.st (vt rfl) (vt rfl) rfl ?_
 refine W.go ?_
 refine ⟨_, rowL o3 58 (flat encR c.stat sp3) ++ (rowL o2 107 (flat encRs c.resv sp2) ++ rowL o1 3 (flat encI c.excl sp1)), (RVs.cell rfl RVs.nil), (by repeat (first | exact List.Sublist.refl _ | exact hSub _ | exact List.sublist_append_left _ _ | exact List.nil_sublist _ | refine List.Sublist.append (List.Sublist.refl _) ?_ | apply List.Sublist.cons_cons | apply List.Sublist.cons | exact List.sublist_append_left _ _ | refine List.Sublist.trans ?_ (List.sublist_append_right _ _))), ?_⟩
 exact ⟨o1, c1, sp1, o2, c2, sp2, o3, c3, sp3, rfl, ok1, ok2, ok3, rfl⟩
end Go.Proofs.YtfmdaijkgjkmpaaGreatDoor
