/- Several texts in one (Law0). Their conditions are their own. -/
import Derived.Test.YtfmdaijkgjkmpaaGreatDoorCall
import Derived.Test.YtfmdaijkgjkmpaaGreatDoorPRL
import Derived.Lib.AppendZerosOnto
import Derived.Test.YtfmdaijkgjkmpaaGreatDoorLogic
import Derived.Laws.BitsLemmas
set_option linter.unusedVariables false
set_option linter.unusedSimpArgs false
namespace Go.Proofs.YtfmdaijkgjkmpaaGreatDoor
open Go Go.RowKit
structure Qn' where
  name : List UInt8
  type : Int
deriving DecidableEq
abbrev encK : Kn → List Value := fun k => [.string (S k.name), .int .i64 k.pos]
abbrev dK : Kn := ⟨[], 0⟩
abbrev encQ : Qn' → List Value := fun k => [.string (S k.name), .int .i64 k.type]
abbrev dQ : Qn' := ⟨[], 0⟩
abbrev encR : RR → List Value := fun r => [.string (S r.name), .int .i64 r.type, .int .i64 r.ttl, .int .i64 r.addr, .string (S r.target), .string (S r.text), .int .i64 r.serial]
abbrev dR : RR := ⟨[], 0, 0, 0, [], [], 0⟩
instance : Enc encK 2 dK := ⟨fun _ => rfl, by decide⟩
instance : EncOne encK := ⟨fun x u hu => by simp at hu; rcases hu with rfl | rfl <;> rfl⟩
instance : Enc encQ 2 dQ := ⟨fun _ => rfl, by decide⟩
instance : EncOne encQ := ⟨fun x u hu => by simp at hu; rcases hu with rfl | rfl <;> rfl⟩
instance : Enc encR 7 dR := ⟨fun _ => rfl, by decide⟩
instance : EncOne encR := ⟨fun x u hu => by simp at hu; rcases hu with rfl | rfl | rfl | rfl | rfl | rfl | rfl <;> rfl⟩
set_option maxRecDepth 100000 in
theorem law0_Num (v : Int) (w : World) : Fn Tryz.prog 16 [.int .i64 v] w [] fun r L' => r = .int .i64 v ∧ L' = [] := by
  refine Fn.enter Tryz.func16 rfl rfl rfl rfl (Holds.nil w) ?_
  refine CW.seq ?_
  refine CW.region ?_
  refine W.p O.as ?_
  refine WL.nil (Q.tn ?_)
  refine CW.seq ?_
  refine CW.region ?_
  refine W.p O.mv ?_
  refine W.p O.as ?_
  refine WL.nil (Q.tn ?_)
  refine CW.ret ?_
  refine ⟨_, [], (RVs.tmp rfl RVs.nil), List.nil_sublist _, ?_⟩
  exact ⟨rfl, rfl⟩
end Go.Proofs.YtfmdaijkgjkmpaaGreatDoor

set_option linter.unusedVariables false
set_option linter.unusedSimpArgs false
namespace Go.Proofs.YtfmdaijkgjkmpaaGreatDoor
open Go Go.RowKit
abbrev mkRRs : RR := ⟨[], 0, 77777, 0, [], [], 0⟩
set_option maxRecDepth 100000 in
theorem copyRRs (xs : List RR) (a : Option Addr) (c : Nat) (w : World) (h : In w a (xs.flatMap encR)) (hn : xs.length ≤ 1000000000) : Fn Tryz.prog 32 [.slice a xs.length c] w [] (Fresh encR 58 7 xs) := by
  have row := Row.ofE h
  refine Fn.enter Tryz.func32 rfl rfl rfl rfl (Holds.nil w) ?_
  refine CW.seq ?_
  refine CW.region ?_
  refine W.p O.as ?_
  refine WL.nil (Q.tn ?_)
  refine CW.seq ?_
  refine CW.region ?_
  refine W.bs0 encR rfl fun b1 => ?_
  refine W.p O.mv ?_
  refine W.ap rfl (vt rfl) (vt rfl) (by first | rfl | omega) (by first | rfl | omega) rfl (by first | assumption | exact OwnOk.nil | exact OwnOk.lit) (by first | omega | (simp; omega)) fun o1 c1 sp1 ok1 ne1 gt1 => ?_
  have nk1 := ok1.nk; have le1 := ok1.2.2.1; try simp only [List.length_append, List.length_cons, List.length_nil] at le1
  refine W.p O.as ?_
  refine WL.nil (Q.tn ?_)
  refine CW.ret ?_
  refine ⟨_, rowL o1 58 (flat encR xs sp1), (RVs.tmp rfl RVs.nil), (by repeat (first | exact List.Sublist.refl _ | exact hSub _ | exact List.sublist_append_left _ _ | exact List.nil_sublist _ | refine List.Sublist.append (List.Sublist.refl _) ?_ | apply List.Sublist.cons_cons | apply List.Sublist.cons | exact List.sublist_append_left _ _ | refine List.Sublist.trans ?_ (List.sublist_append_right _ _))), ?_⟩
  exact ⟨o1, c1, sp1, rfl, ok1, rfl⟩
set_option maxRecDepth 100000 in
theorem lendRRs (xs : List RR) (a : Option Addr) (c : Nat) (w : World) (h : In w a (xs.flatMap encR)) (hn : xs.length ≤ 1000000000) : Fn Tryz.prog 11 [.slice a xs.length c] w [] (Lent encR 58 7 xs mkRRs) := by
  have row := Row.ofE h
  refine Fn.enter Tryz.func11 rfl rfl rfl rfl (Holds.nil w) ?_
  refine CW.seq ?_
  refine CW.region ?_
  refine W.p O.as ?_
  refine WL.nil (Q.tn ?_)
  refine CW.seq ?_
  refine CW.region ?_
  refine W.p O.mv ?_
  refine W.callN (first := []) (cap := []) rfl (vt rfl) (AV.cons (vt rfl) (AV.nil)) (fun w hu => copyRRs xs a c w (row.h _ w hu) hn) ?_; rintro _ _ ⟨o9, c9, sp9, rfl, ok9, rfl⟩; have nk9 := ok9.nk
  refine W.p (O.bd (hv := PV.cons (vt rfl) (PV.nil))) ?_
  refine W.p (O.bd (hv := PV.cons (vt rfl) (PV.nil))) ?_
  refine W.bs encR [mkRRs, mkRRs] rfl (PV.cons (vt rfl) (PV.cons (vt rfl) (PV.nil))) rfl rfl rfl (by decide) rfl fun b1 => ?_
  refine W.ap rfl (vt rfl) (vt rfl) (by first | rfl | omega) (by first | rfl | omega) rfl (by first | assumption | exact OwnOk.nil | exact OwnOk.lit) (by first | omega | (simp; omega)) fun o1 c1 sp1 ok1 ne1 gt1 => ?_
  have nk1 := ok1.nk; have le1 := ok1.2.2.1; try simp only [List.length_append, List.length_cons, List.length_nil] at le1
  refine W.p O.as ?_
  refine WL.nil (Q.tn ?_)
  refine CW.seq ?_
  refine CW.region ?_
  refine W.p O.mv ?_
  refine W.p O.mv ?_
  refine W.p O.lenL ?_
  refine W.p O.slH ?_
  refine W.p O.as ?_
  refine WL.nil (Q.tn ?_)
  refine CW.ret ?_
  refine ⟨_, rowL o1 58 (flat encR (xs ++ [mkRRs, mkRRs]) sp1), (RVs.tmp rfl RVs.nil), (by repeat (first | exact List.Sublist.refl _ | exact hSub _ | exact List.sublist_append_left _ _ | exact List.nil_sublist _ | refine List.Sublist.append (List.Sublist.refl _) ?_ | apply List.Sublist.cons_cons | apply List.Sublist.cons | exact List.sublist_append_left _ _ | refine List.Sublist.trans ?_ (List.sublist_append_right _ _))), ?_⟩
  obtain ⟨b, rfl⟩ := ne1 (by simp)
  exact ⟨b, c1, sp1, rfl, ok1, rfl⟩
set_option maxRecDepth 100000 in
theorem sameRRs (xs ys : List RR) (a b : Option Addr) (c c' : Nat) (w : World) (h : In w a (xs.flatMap encR)) (h' : In w b (ys.flatMap encR)) (hn : xs.length ≤ 1000000000) : Fn Tryz.prog 17 [.slice a xs.length c, .slice b ys.length c'] w [] fun v L' => v = .bool (decide (xs = ys)) ∧ L' = [] := by
  have row := Row.ofE h
  have row' := Row.ofE h'
  refine Fn.enter Tryz.func17 rfl rfl rfl rfl (Holds.nil w) ?_
  refine CW.seq ?_
  refine CW.region ?_
  refine W.p O.as ?_
  refine WL.nil (Q.tn ?_)
  refine CW.seq ?_
  refine CW.seq ?_
  refine CW.region ?_
  refine W.p O.mv ?_
  refine W.p O.lenL ?_
  refine W.p O.mv ?_
  refine W.p O.lenL ?_
  refine W.p O.neI ?_
  refine WL.nil (Q.tn ?_)
  refine CW.cond (vt rfl) (fun hc1 => ?_) (fun hc1 => ?_)
  · try simp only [sk] at hc1
    refine CW.seq ?_
    refine CW.region ?_
    refine W.p O.as ?_
    refine WL.nil (Q.tn ?_)
    refine CW.ret (Q.tr ?_)
    refine ⟨_, [], (RVs.tmp rfl RVs.nil), List.nil_sublist _, ?_⟩
    refine ⟨congrArg Value.bool ?_, rfl⟩
    rw [eq_comm, decide_eq_false_iff_not]; intro e; subst e; exact hc1 rfl
  try simp only [sk] at hc1
  refine CW.skip (Q.tn ?_)
  refine CW.seq ?_
  refine CW.seq ?_
  refine CW.region ?_
  refine W.p O.as ?_
  refine WL.nil (Q.tn ?_)
  refine CW.block ?_
  refine CW.loopA (X := Int) (fun i => [(0, true, .slice a xs.length c), (1, true, .slice b ys.length c'), (5, true, .int .i64 i)]) (fun i => []) (fun i => 0 ≤ i ∧ i ≤ xs.length ∧ xs.take i.toNat = ys.take i.toNat) (fun i => (xs.length - i).toNat) (0) ?_ ?_
  · exact ⟨by omega, by omega, rfl⟩
  rintro i hI
  try dsimp only at hI ⊢
  obtain ⟨h0, h1, hr⟩ := hI
  refine CW.seq ?_
  refine CW.seq ?_
  refine CW.region ?_
  refine W.p O.mv ?_
  refine W.p O.mv ?_
  refine W.p O.lenL ?_
  refine W.p O.lss ?_
  refine WL.nil (Q.tn ?_)
  refine CW.cond (vt rfl) (fun hc2 => ?_) (fun hc2 => ?_)
  · try simp only [sk] at hc2
    refine CW.skip (Q.tn ?_)
    refine CW.seq ?_
    refine CW.block ?_
    refine CW.seq ?_
    refine CW.draw 9 rfl (by kernel_rfl) ?_
    refine WQ.p O.mv ?_
    refine WQ.p O.mv ?_
    refine WQ.p O.ixA ?_
    refine WQ.p O.ldsE ?_
    refine WQ.p O.mv ?_
    refine WQ.p O.mv ?_
    refine WQ.p O.ixA ?_
    refine WQ.p O.ldsE ?_
    refine WQ.p O.neT ?_
    refine WQ.nil ?_
    refine WL.nil (Q.tn ?_)
    refine CW.cond (vt rfl) (fun hc3 => ?_) (fun hc3 => ?_)
    · try simp only [sk] at hc3
      refine CW.seq ?_
      refine CW.region ?_
      refine W.p O.as ?_
      refine WL.nil (Q.tn ?_)
      refine CW.ret (Q.br (Q.tr (Q.tr (Q.br (Q.tr ?_)))))
      refine ⟨_, [], (RVs.tmp rfl RVs.nil), List.nil_sublist _, ?_⟩
      refine ⟨congrArg Value.bool ?_, rfl⟩
      rw [eq_comm, decide_eq_false_iff_not]; intro e; subst e; simp at hc3
    try simp only [sk] at hc3
    refine CW.skip (Q.bn (Q.tn ?_))
    refine CW.region ?_
    refine W.p O.mv ?_
    first | refine W.p O.addN ?_ | refine W.p O.add ?_
    refine W.p O.as ?_
    refine WL.nil (Q.tn ?_)
    refine nextA (_) ?_ ?_
    · try dsimp only
      refine ⟨by omega, by omega, ?_⟩
      rw [take_at' dR h0 (by omega), take_at' dR h0 (by omega), hr]; congr 2
      generalize xs.getD i.toNat dR = p at *; generalize ys.getD i.toNat dR = q at *; cases p; cases q; simp_all
    · try dsimp only
      omega
  try simp only [sk] at hc2
  refine CW.exit (Q.te (Q.te (Q.bx (Q.tn ?_))))
  refine CW.seq ?_
  refine CW.region ?_
  refine W.p O.as ?_
  refine WL.nil (Q.tn ?_)
  refine CW.ret ?_
  refine ⟨_, [], (RVs.tmp rfl RVs.nil), List.nil_sublist _, ?_⟩
  refine ⟨congrArg Value.bool ?_, rfl⟩
  have e1 : xs.take i.toNat = xs := List.take_of_length_le (by omega)
  have e2 : ys.take i.toNat = ys := List.take_of_length_le (by omega)
  rw [e1, e2] at hr; rw [hr]; simp
set_option maxRecDepth 100000 in
theorem keptRRs (xs : List RR) (b : Nat) (a : Option Addr) (c c' : Nat) (w : World) (h : In w (oa (some b)) ((xs ++ [mkRRs, mkRRs]).flatMap encR)) (h' : In w a (xs.flatMap encR)) (hn : xs.length ≤ 1000000000) (hc : xs.length + 2 ≤ c) : Fn Tryz.prog 21 [.slice (oa (some b)) xs.length c, .slice a xs.length c'] w [] fun v L' => v = .bool true ∧ L' = [] := by
  have row := Row.ofE h
  have gm := getD_mid dR xs mkRRs mkRRs
  refine Fn.enter Tryz.func21 rfl rfl rfl rfl (Holds.nil w) ?_
  refine CW.seq ?_
  refine CW.region ?_
  refine W.p O.as ?_
  refine WL.nil (Q.tn ?_)
  refine CW.seq ?_
  refine CW.region ?_
  refine W.p O.mv ?_
  refine W.p O.mv ?_
  refine W.p O.lenL ?_
  first | refine W.p O.addN ?_ | refine W.p O.add ?_
  refine W.p O.slH ?_
  refine W.p O.as ?_
  refine WL.nil (Q.tn ?_)
  refine CW.seq ?_
  refine CW.region ?_
  refine W.p O.mv ?_
  refine W.p O.mv ?_
  refine W.q (O.call ⟨rfl, rfl⟩ (AV.cons (vt rfl) (AV.cons (vt rfl) (AV.nil))) (fun _ w hw => sameRRs xs xs (oa (some b)) a c c' w (by have := row.h _ w hw; rw [List.flatMap_append] at this; exact this.pre) ((Row.ofE h').h _ w hw) hn)) ?_
  refine W.p O.mv ?_
  refine W.p O.mv ?_
  refine W.p O.mv ?_
  refine W.p O.lenL ?_
  refine W.p O.ixA ?_
  refine W.p O.ldsE ?_
  refine W.p (O.bd (hv := PV.cons (vt rfl) (PV.nil))) ?_
  refine W.p O.eqT ?_
  refine W.p O.pkB ?_
  refine W.p O.mv ?_
  refine W.p O.mv ?_
  refine W.p O.mv ?_
  refine W.p O.lenL ?_
  first | refine W.p O.addN ?_ | refine W.p O.add ?_
  refine W.p O.ixA ?_
  refine W.p O.ldsE ?_
  refine W.p (O.bd (hv := PV.cons (vt rfl) (PV.nil))) ?_
  refine W.p O.eqT ?_
  refine W.p O.pkB ?_
  refine W.p O.as ?_
  refine WL.nil (Q.tn ?_)
  refine CW.ret ?_
  refine ⟨_, [], (RVs.tmp rfl RVs.nil), List.nil_sublist _, ?_⟩
  refine ⟨congrArg Value.bool ?_, rfl⟩
  simp only [Int.toNat_natCast, show ((xs.length : Int) + 1).toNat = xs.length + 1 by omega, gm.1, gm.2]
  simp
set_option maxRecDepth 100000 in
theorem sameQuestions (xs ys : List Qn') (a b : Option Addr) (c c' : Nat) (w : World) (h : In w a (xs.flatMap encQ)) (h' : In w b (ys.flatMap encQ)) (hn : xs.length ≤ 1000000000) : Fn Tryz.prog 30 [.slice a xs.length c, .slice b ys.length c'] w [] fun v L' => v = .bool (decide (xs = ys)) ∧ L' = [] := by
  have row := Row.ofE h
  have row' := Row.ofE h'
  refine Fn.enter Tryz.func30 rfl rfl rfl rfl (Holds.nil w) ?_
  refine CW.seq ?_
  refine CW.region ?_
  refine W.p O.as ?_
  refine WL.nil (Q.tn ?_)
  refine CW.seq ?_
  refine CW.seq ?_
  refine CW.region ?_
  refine W.p O.mv ?_
  refine W.p O.lenL ?_
  refine W.p O.mv ?_
  refine W.p O.lenL ?_
  refine W.p O.neI ?_
  refine WL.nil (Q.tn ?_)
  refine CW.cond (vt rfl) (fun hc1 => ?_) (fun hc1 => ?_)
  · try simp only [sk] at hc1
    refine CW.seq ?_
    refine CW.region ?_
    refine W.p O.as ?_
    refine WL.nil (Q.tn ?_)
    refine CW.ret (Q.tr ?_)
    refine ⟨_, [], (RVs.tmp rfl RVs.nil), List.nil_sublist _, ?_⟩
    refine ⟨congrArg Value.bool ?_, rfl⟩
    rw [eq_comm, decide_eq_false_iff_not]; intro e; subst e; exact hc1 rfl
  try simp only [sk] at hc1
  refine CW.skip (Q.tn ?_)
  refine CW.seq ?_
  refine CW.seq ?_
  refine CW.region ?_
  refine W.p O.as ?_
  refine WL.nil (Q.tn ?_)
  refine CW.block ?_
  refine CW.loopA (X := Int) (fun i => [(0, true, .slice a xs.length c), (1, true, .slice b ys.length c'), (5, true, .int .i64 i)]) (fun i => []) (fun i => 0 ≤ i ∧ i ≤ xs.length ∧ xs.take i.toNat = ys.take i.toNat) (fun i => (xs.length - i).toNat) (0) ?_ ?_
  · exact ⟨by omega, by omega, rfl⟩
  rintro i hI
  try dsimp only at hI ⊢
  obtain ⟨h0, h1, hr⟩ := hI
  refine CW.seq ?_
  refine CW.seq ?_
  refine CW.region ?_
  refine W.p O.mv ?_
  refine W.p O.mv ?_
  refine W.p O.lenL ?_
  refine W.p O.lss ?_
  refine WL.nil (Q.tn ?_)
  refine CW.cond (vt rfl) (fun hc2 => ?_) (fun hc2 => ?_)
  · try simp only [sk] at hc2
    refine CW.skip (Q.tn ?_)
    refine CW.seq ?_
    refine CW.block ?_
    refine CW.seq ?_
    refine CW.draw 9 rfl (by kernel_rfl) ?_
    refine WQ.p O.mv ?_
    refine WQ.p O.mv ?_
    refine WQ.p O.ixA ?_
    refine WQ.p O.ldsE ?_
    refine WQ.p O.mv ?_
    refine WQ.p O.mv ?_
    refine WQ.p O.ixA ?_
    refine WQ.p O.ldsE ?_
    refine WQ.p O.neT ?_
    refine WQ.nil ?_
    refine WL.nil (Q.tn ?_)
    refine CW.cond (vt rfl) (fun hc3 => ?_) (fun hc3 => ?_)
    · try simp only [sk] at hc3
      refine CW.seq ?_
      refine CW.region ?_
      refine W.p O.as ?_
      refine WL.nil (Q.tn ?_)
      refine CW.ret (Q.br (Q.tr (Q.tr (Q.br (Q.tr ?_)))))
      refine ⟨_, [], (RVs.tmp rfl RVs.nil), List.nil_sublist _, ?_⟩
      refine ⟨congrArg Value.bool ?_, rfl⟩
      rw [eq_comm, decide_eq_false_iff_not]; intro e; subst e; simp at hc3
    try simp only [sk] at hc3
    refine CW.skip (Q.bn (Q.tn ?_))
    refine CW.region ?_
    refine W.p O.mv ?_
    first | refine W.p O.addN ?_ | refine W.p O.add ?_
    refine W.p O.as ?_
    refine WL.nil (Q.tn ?_)
    refine nextA (_) ?_ ?_
    · try dsimp only
      refine ⟨by omega, by omega, ?_⟩
      rw [take_at' dQ h0 (by omega), take_at' dQ h0 (by omega), hr]; congr 2
      generalize xs.getD i.toNat dQ = p at *; generalize ys.getD i.toNat dQ = q at *; cases p; cases q; simp_all
    · try dsimp only
      omega
  try simp only [sk] at hc2
  refine CW.exit (Q.te (Q.te (Q.bx (Q.tn ?_))))
  refine CW.seq ?_
  refine CW.region ?_
  refine W.p O.as ?_
  refine WL.nil (Q.tn ?_)
  refine CW.ret ?_
  refine ⟨_, [], (RVs.tmp rfl RVs.nil), List.nil_sublist _, ?_⟩
  refine ⟨congrArg Value.bool ?_, rfl⟩
  have e1 : xs.take i.toNat = xs := List.take_of_length_le (by omega)
  have e2 : ys.take i.toNat = ys := List.take_of_length_le (by omega)
  rw [e1, e2] at hr; rw [hr]; simp
end Go.Proofs.YtfmdaijkgjkmpaaGreatDoor

set_option linter.unusedVariables false
set_option linter.unusedSimpArgs false
namespace Go.Proofs.YtfmdaijkgjkmpaaGreatDoor
open Go Go.RowKit
/-- a row that lies apart from a heaplet -/
def Lies (w : World) (L0 : Heap) (a : Option Addr) (cs : List Value) : Prop :=
  cs = [] ∨ ∃ b o arr U fz, a = some ⟨b, o, none⟩ ∧ w.heap[b]? = some (.cells arr U fz) ∧ b ∉ L0.map Prod.fst ∧ ∀ k, k < cs.length → arr[o + k]? = cs[k]?
theorem In.lies {w : World} {a : Option Addr} {cs : List Value} (h : In w a cs) : Lies w [] a cs := by
  rcases h with h | ⟨b, o, arr, U, fz, ha, hb, hc⟩
  · exact .inl h
  · exact .inr ⟨b, o, arr, U, fz, ha, hb, by simp, hc⟩
theorem Lies.in {w : World} {L0 : Heap} {a : Option Addr} {cs : List Value} (h : Lies w L0 a cs) : In w a cs := by
  rcases h with h | ⟨b, o, arr, U, fz, ha, hb, hn, hc⟩
  · exact .inl h
  · exact .inr ⟨b, o, arr, U, fz, ha, hb, hc⟩
theorem Lies.rowE {w0 : World} {L0 : Heap} {a : Option Addr} {m : Nat} {α : Type} {dv : α} {enc : α → List Value} {xs : List α} [e : Enc enc m dv] (h : Lies w0 L0 a (xs.flatMap enc)) : Row w0 L0 a m α dv enc xs :=
  ⟨fun L w hw => by
    rcases h with h | ⟨b, q, arr, U, fz, ha, hb, hn, hc⟩
    · exact .inl h
    · exact .inr ⟨b, q, arr, U, fz, ha, by rw [hw.old b (Array.getElem?_eq_some_iff.1 hb).1 hn, hb], hc⟩, e.hm, e.pos⟩
theorem Lies.step {w0 w : World} {L0 L Lb : Heap} {a : Option Addr} {cs : List Value} (h : Lies w0 L0 a cs) (hw : Upd w0 L0 w L) (hs : Lb.Sublist L) : Lies w Lb a cs := by
  rcases h with h | ⟨b, o, arr, U, fz, ha, hb, hn, hc⟩
  · exact .inl h
  · have hlt := (Array.getElem?_eq_some_iff.1 hb).1
    refine .inr ⟨b, o, arr, U, fz, ha, by rw [hw.old b hlt hn, hb], ?_, hc⟩
    intro hm
    obtain ⟨p, hp, e⟩ := List.mem_map.1 hm
    rcases hw.own p (hs.subset hp) with h1 | h1
    · rw [e] at h1; exact hn h1
    · omega
theorem Lies.own {w0 w : World} {L0 L Lb Lr : Heap} {α : Type} {enc : α → List Value} {o : Option Nat} {U : TypeId} {xs : List α} {sp : List Value} [hn : NilOk o xs] (hw : Upd w0 L0 w (Lr ++ L)) (hr : (rowL o U (flat enc xs sp)).Sublist Lr) (hs : Lb.Sublist L) : Lies w Lb (oa o) (xs.flatMap enc) := by
  cases o with
  | none => rw [hn.h rfl]; exact .inl rfl
  | some b =>
    have hb : (b, Obj.cells (flat enc xs sp).toArray U (0, 0)) ∈ Lr := hr.subset (by simp [rowL])
    refine .inr ⟨b, 0, _, U, _, rfl, hw.has _ (List.mem_append_left _ hb), ?_, fun k hk => ?_⟩
    · intro hm
      have hnd := hw.nd
      rw [List.map_append, List.nodup_append] at hnd
      exact hnd.2.2 b (List.mem_map.2 ⟨_, hb, rfl⟩) b ((hs.map Prod.fst).subset hm) rfl
    · simp only [Nat.zero_add, List.getElem?_toArray, flat]
      exact List.getElem?_append_left hk
theorem O.extL {P : Program} {d n : Nat} {w0 : World} {L0 L : Heap} {all : List Oper} {E : Env} {x : Operand} {ty : TypeId} {pos : String} {aft : Array Edge} {g : Option (Nat × Bool)} {G : Bool} {l : List Value} {v : Value} {i : Nat} (hp : Pre n all E g d G := by exact ⟨rfl, rfl⟩) (hx : Val G E x (.tuple l.toArray) := by first | exact vt rfl | exact vs rfl | exact vi rfl and1 | exact vi rfl (fun h => and1 (and1 h)) | exact vi rfl (by simp +contextual)) (hi : l[i]? = some v := by rfl) : QV P n w0 L0 all ⟨some d, .extract x i, ty, pos, aft, g⟩ E L d G v :=
  O.ext hp hx (by simpa using hi)
instance (priority := 100000) Seg.all' {L : Heap} : Seg L L (fun X => X) := Seg.all
instance (priority := low) Cut.appl {L L' M : Heap} {o : Option Nat} {U : TypeId} {cs : List Value} [h : Cut L o U cs L'] : Cut (L ++ M) o U cs (L' ++ M) := ⟨by
  have := List.Perm.append_right M h.h
  rwa [List.append_assoc] at this⟩
end Go.Proofs.YtfmdaijkgjkmpaaGreatDoor

set_option linter.unusedVariables false
set_option linter.unusedSimpArgs false
namespace Go.Proofs.YtfmdaijkgjkmpaaGreatDoor
open Go Go.RowKit
/-- a cell that can be read, whatever else goes on -/
class Cell (w0 : World) (L0 L : Heap) (q : Addr) (v : outParam Value) : Prop where h : ∀ w, Upd w0 L0 w L → In w (some q) [v]
theorem O.ldC {P : Program} {d n : Nat} {w0 : World} {L0 L : Heap} {all : List Oper} {E : Env} {x : Operand} {T ty : TypeId} {pos : String} {aft : Array Edge} {g : Option (Nat × Bool)} {G : Bool} {q : Addr} {v : Value} [TScal P T] (hp : Pre n all E g d G := by exact ⟨rfl, rfl⟩) (hx : Val G E x (.pointer (some q)) := by first | exact vt rfl | exact vs rfl | exact vi rfl and1 | exact vi rfl (fun h => and1 (and1 h)) | exact vi rfl (by simp +contextual)) [c : Cell w0 L0 L q v] :
    QV P n w0 L0 all ⟨some d, .load T x, ty, pos, aft, g⟩ E L d G v :=
  O.val rfl hp (fun hG A w ha hw => by
    rcases c.h w hw with h | ⟨b, p, arr, U', fz, he, hb, hc⟩
    · cases h
    · cases he
      have h0 := hc 0 (by simp)
      have hb' : w.heap[b]? = some (.cells arr.toList.toArray U' fz) := by simpa using hb
      have := run_load_one (P := P) (T := T) (o := p) (v := v) hb' (by simpa using h0)
      simp [execOp, Instr.loadAt, Instr.sureAddr, hx.eval hG ha, Sem.run_bind, this])
theorem W.offc {P : Program} {d n : Nat} {w0 : World} {L0 L : Heap} {all rest : List Oper} {E : Env} {Q : Post} {o : Oper} (v : Value) (hd : o.dst = some d) (hn : Nat.blt d n = true) (hg : gd all E o.guard = some false) (k : WL P n w0 L0 all rest ((d, false, v) :: E) L Q) : WL P n w0 L0 all (o :: rest) E L Q := by
  intro a w ha hw
  have h1 := gd_wanted ha hg
  have hlt : d < n := by simpa using hn
  have := k _ w (ha.put (G := false) (v := v) hlt) hw
  unfold wpList
  rw [if_neg (by rw [h1]; decide), hd]
  exact this
theorem CW.permH {P : Program} {n : Nat} {w0 : World} {L0 L L' : Heap} {c : Code} {E : Env} {Q : Post} (hp : L.Perm L') (h : CW P n w0 L0 c E L' Q) : CW P n w0 L0 c E L Q := fun a w ha hw => h a w ha (hw.perm hp.symm)
theorem In.upd {w w' : World} {L L0 : Heap} {a : Option Addr} {cs : List Value} (h : In w a cs) (hw : Upd w [] w' L) : In w' a cs := (h.lies.step hw (List.nil_sublist _)).in
theorem in_blk {w0 w : World} {L0 L : Heap} {b : Nat} {cs : List Value} {U : TypeId} (hw : Upd w0 L0 w L) [h1 : Blk L b (.cells cs.toArray U (0, 0))] : In w (some ⟨b, 0, none⟩) cs :=
  .inr ⟨b, 0, cs.toArray, U, (0, 0), rfl, hw.has _ h1.h, fun k hk => by simp⟩
/-- a struct's cells that can be read, whatever else goes on -/
class Cells (w0 : World) (L0 L : Heap) (q : Addr) (m : outParam Nat) (vs : outParam (List Value)) : Prop where
  h : ∀ w, Upd w0 L0 w L → In w (some q) vs
  ln : vs.length = m
  pos : 0 < m
theorem O.ldsC {P : Program} {d n m : Nat} {w0 : World} {L0 L : Heap} {all : List Oper} {E : Env} {x : Operand} {T ty : TypeId} {pos : String} {aft : Array Edge} {g : Option (Nat × Bool)} {G : Bool} {q : Addr} {vs : List Value} [TAgg P T m] (hp : Pre n all E g d G := by exact ⟨rfl, rfl⟩) (hx : Val G E x (.pointer (some q)) := by first | exact vt rfl | exact vs rfl | exact vi rfl and1 | exact vi rfl (fun h => and1 (and1 h)) | exact vi rfl (by simp +contextual)) [c : Cells w0 L0 L q m vs] :
    QV P n w0 L0 all ⟨some d, .load T x, ty, pos, aft, g⟩ E L d G (.agg vs.toArray) :=
  O.val rfl hp (fun hG A w ha hw => by
    have hm := c.ln; have h0 := c.pos
    rcases c.h w hw with h | ⟨b, p, arr, U', fz, he, hb, hc⟩
    · rw [h] at hm; simp at hm; omega
    · cases he
      have hl : (loadCells ⟨b, p, none⟩ vs.length).run P w = .ok vs.toArray w := run_loadCells_list w _ vs (fun j v hv => by
        have hj := (List.getElem?_eq_some_iff.1 hv).1
        rw [Addr.add_at]
        unfold World.cell?
        simp [hb, hc j hj, hv])
      rw [hm] at hl
      have := TAgg.size (P := P) (T := T) (m := m)
      have h2 : (loadVar T ⟨b, p, none⟩).run P w = .ok (.agg vs.toArray) w := by simp [loadVar, Sem.run_bind, TAgg.run (T := T) w, TSize.run (T := T) w, hl]
      simp [execOp, Instr.loadAt, Instr.sureAddr, hx.eval hG ha, Sem.run_bind, h2])
/-- where a row that is not empty lies -/
theorem In.ptr {w : World} {p : Option Addr} {cs : List Value} (h : In w p cs) (hne : cs ≠ []) : ∃ b o, p = some ⟨b, o, none⟩ := by
  rcases h with h | ⟨b, o, arr, U, fz, he, _⟩
  · exact absurd h hne
  · exact ⟨b, o, he⟩
theorem cellO {w : World} {L : Heap} {b o i : Nat} {cs : List Value} {v : Value} (h : In w (some ⟨b, o, none⟩) cs) (hi : cs[i]? = some v) : Cell w [] L ⟨b, o + i, none⟩ v := ⟨fun w' hw => by
  rcases (h.upd (L0 := []) hw : In w' _ _) with h | ⟨b', o', arr, U, fz, he, hb, hc⟩
  · subst h; cases hi
  · cases he
    refine .inr ⟨b, o + i, arr, U, fz, rfl, hb, fun k hk => ?_⟩
    have hk0 : k = 0 := by simpa using hk
    subst hk0
    have := hc i (List.getElem?_eq_some_iff.1 hi).1
    simpa [hi] using this⟩
theorem In.adr {w : World} {p : Option Addr} {cs : List Value} (h : In w p cs) (hne : cs ≠ []) : ∃ q, p = some q := by
  obtain ⟨b, o, e⟩ := h.ptr hne; exact ⟨_, e⟩
theorem cellQ {w : World} {L : Heap} {q : Addr} {i : Nat} {cs : List Value} {v : Value} (h : In w (some q) cs) (hi : cs[i]? = some v) : Cell w [] L (q.add i) v := by
  obtain ⟨b, o, e⟩ := h.ptr (fun e => by rw [e] at hi; cases hi)
  obtain rfl := Option.some.inj e
  rw [Addr.add_at]; exact cellO h hi
theorem cellsO {w : World} {L : Heap} {q : Addr} {m : Nat} {cs : List Value} (h : In w (some q) cs) (hl : cs.length = m) (h0 : 0 < m) : Cells w [] L q m cs := ⟨fun w' hw => h.upd (L0 := []) hw, hl, h0⟩
end Go.Proofs.YtfmdaijkgjkmpaaGreatDoor

set_option linter.unusedVariables false
set_option linter.unusedSimpArgs false
namespace Go.Proofs.YtfmdaijkgjkmpaaGreatDoor
open Go Go.RowKit
/-- a row as it was, or an owned one -/
def PRow (a : Option Addr) (c : Nat) (ks : List Kn) (Lr : Heap) (a' : Option Addr) (c' : Nat) (ks' : List Kn) : Prop :=
  (a' = a ∧ c' = c ∧ ks' = ks) ∨ ∃ o sp, a' = oa o ∧ OwnOk o c' 2 ks'.length (List.length sp) ∧ (rowL o 167 (flat encK ks' sp)).Sublist Lr
theorem PRow.lies {w0 w : World} {L0 L Lr : Heap} {a a' : Option Addr} {c c' : Nat} {ks ks' : List Kn} (hp : PRow a c ks Lr a' c' ks') (h0 : Lies w0 L0 a (ks.flatMap encK)) (hw : Upd w0 L0 w (Lr ++ L)) {Lb : Heap} (hs : Lb.Sublist L) : Lies w Lb a' (ks'.flatMap encK) := by
  rcases hp with ⟨rfl, rfl, rfl⟩ | ⟨o, sp, rfl, ok, hr⟩
  · exact h0.step hw (hs.trans (List.sublist_append_right _ _))
  · have := ok.nk (α := Kn) (xs := ks'); exact Lies.own hw hr hs
theorem PRow.same {a : Option Addr} {c : Nat} {ks : List Kn} {Lr : Heap} : PRow a c ks Lr a c ks := .inl ⟨rfl, rfl, rfl⟩
theorem PRow.trans {a a1 a2 : Option Addr} {c c1 c2 : Nat} {ks k1 k2 : List Kn} {L1 L2 : Heap} (h : PRow a c ks L1 a1 c1 k1) (h' : PRow a1 c1 k1 L2 a2 c2 k2) : PRow a c ks (L1 ++ L2) a2 c2 k2 := by
  rcases h' with ⟨rfl, rfl, rfl⟩ | ⟨o, sp, rfl, ok, hr⟩
  · rcases h with h | ⟨o, sp, rfl, ok, hr⟩
    · exact .inl h
    · exact .inr ⟨o, sp, rfl, ok, hr.trans (List.sublist_append_left _ _)⟩
  · exact .inr ⟨o, sp, rfl, ok, hr.trans (List.sublist_append_right _ _)⟩
end Go.Proofs.YtfmdaijkgjkmpaaGreatDoor

set_option linter.unusedVariables false
set_option linter.unusedSimpArgs false
namespace Go.Proofs.YtfmdaijkgjkmpaaGreatDoor
open Go Go.RowKit
theorem W.apZ {P : Program} {d n : Nat} {w0 : World} {L0 L : Heap} {all rest : List Oper} {E : Env} {Q : Post} {x y : Operand} {pos : String} {aft : Array Edge} {T T2 U ty : TypeId} {α : Type} (enc : α → List Value) {m kb : Nat} {z : Value} {p : Int}
    [hT : TSlice P T U] [hI : TInt P T2 .i64] [hS : TSize P U m] [hZ : TZero P U z] [hB : TByt P U kb] (hn : Nat.blt d n = true) (hx : Val true E x (.slice none 0 0)) (hy : Val true E y (.int .i64 p)) (hz : z.cells.size = m) (hm : 0 < m) (hp : 0 < p) (hb : p.toNat * kb ≤ 140737488355328)
    (kk : ∀ b c sp, OwnOk (some b) c m 0 (List.length sp) → p ≤ c → WL P n w0 L0 all rest ((d, true, .slice (oa (some b)) p.toNat c) :: E) (rowL (some b) U (flat enc [] sp) ++ L) Q) :
    WL P n w0 L0 all (⟨some d, .call ⟨.builtin .append, #[x, y], #[T, T2]⟩, ty, pos, aft, none⟩ :: rest) E L Q :=
  W.loud rfl rfl hn (R := fun v L2 => ∃ b c sp, OwnOk (some b) c m 0 (List.length sp) ∧ p ≤ c ∧ v = .slice (oa (some b)) p.toNat c ∧ L2 = rowL (some b) U (flat enc [] sp) ++ L) (fun A w ha hw => by
    have hi := hS.h; have hzz := hZ.h; have hbb := hB.h
    cases hu : P.info? U with
    | none => simp [hu] at hi
    | some i =>
    simp only [hu, Option.map_some, Option.some.injEq, Option.bind_some] at hi hzz hbb
    subst hi; subst hbb
    have hk1 : p.toNat ≤ p.toNat * i.bytes := Nat.le_mul_of_pos_right _ hB.pos
    have hpn : ((p.toNat : Nat) : Int) = p := Int.toNat_of_nonneg (by omega)
    have hr := Lib.run_append_grow_zeros (P := P) w T T2 ty U i z .i64 .i64 hT.h hI.h hu hzz none 0 0 [] (by exact run_firstCells_none w.drew _ _ _ _) p.toNat (by omega) hm (by omega) (by omega) (by omega) (growslice_fits (by omega) (by simpa using hb))
    rw [hpn] at hr
    simp only [Nat.zero_add] at hr
    have hge := grownCap_ge w p.toNat 0 U
    have h2 := (hw.same (w' := w.drew) rfl rfl rfl rfl).alloc (.cells (([] : List Value).toArray ++ Builtin.zeroCells z.cells p.toNat ++ Builtin.zeroCells z.cells (grownCap w p.toNat 0 U - p.toNat)) U)
    have e : (([] : List Value).toArray ++ Builtin.zeroCells z.cells p.toNat ++ Builtin.zeroCells z.cells (grownCap w p.toNat 0 U - p.toNat)) = (flat enc ([] : List α) (([] : List Value).toArray ++ Builtin.zeroCells z.cells p.toNat ++ Builtin.zeroCells z.cells (grownCap w p.toNat 0 U - p.toNat)).toList).toArray := by
      apply Array.ext'; simp [flat]
    rw [e] at h2 hr
    refine ⟨_, _, _, ?_, h2, w.heap.size, grownCap w p.toNat 0 U, (([] : List Value).toArray ++ Builtin.zeroCells z.cells p.toNat ++ Builtin.zeroCells z.cells (grownCap w p.toNat 0 U - p.toNat)).toList, ?_, by omega, rfl, ?_⟩
    · simp [execOp, resolve, invoke, builtin, Sem.run_bind, hx.eval rfl ha, hy.eval rfl ha, hr, oa]
    · refine ⟨by simp, ?_, by omega, grownCap_le_maxLen w _ 0 U (by simp only [maxLen]; omega)⟩
      simp only [Array.length_toList, Array.size_append, List.size_toArray, List.length_nil, size_zeroCells, hz, Nat.zero_add, Nat.zero_mul, ← Nat.add_mul]
      congr 1; omega
    · rfl) (by
    rintro v L2 ⟨b, c, sp, e1, e2, rfl, rfl⟩
    exact kk b c sp e1 e2)
end Go.Proofs.YtfmdaijkgjkmpaaGreatDoor

set_option linter.unusedVariables false
set_option linter.unusedSimpArgs false
namespace Go.Proofs.YtfmdaijkgjkmpaaGreatDoor
open Go Go.RowKit
theorem W.mkE {P : Program} {d n : Nat} {w0 : World} {L0 L : Heap} {all rest : List Oper} {E : Env} {Q : Post} {x y : Operand} {T U ty : TypeId} {pos : String} {aft : Array Edge} {k1 k2 : IntKind} {α : Type} {enc : α → List Value} {dv : α} {m kb c : Nat} {z : Value} [hT : TSlice P T U] [hS : TSize P U m] [hZ : TZero P U z] [hB : TByt P U kb]
    (hn : Nat.blt d n = true) (hx : Val true E x (.int k1 (c : Int))) (hy : Val true E y (.int k2 (c : Int))) (hz : z.cells = (enc dv).toArray) (hb : kb * c ≤ 281474976710656) (h63 : (c : Int) ≤ 9223372036854775807) (hc : madeCells (enc dv).toArray (c * m) = (flat enc (List.replicate c dv) []).toArray)
    (k : ∀ b, WL P n w0 L0 all rest ((d, true, .slice (some ⟨b, 0, none⟩) c c) :: E) ((b, .cells (flat enc (List.replicate c dv) []).toArray U (0, 0)) :: L) Q) : WL P n w0 L0 all (⟨some d, .makeSlice T x y, ty, pos, aft, none⟩ :: rest) E L Q :=
  W.new (v := fun b => .slice (some ⟨b, 0, none⟩) c c) rfl rfl hn (fun a w ha _ => by
    have hi := hS.h; have hzz := hZ.h; have hbb := hB.h
    cases hu : P.info? U with
    | none => simp [hu] at hi
    | some i =>
    simp only [hu, Option.map_some, Option.some.injEq, Option.bind_some] at hi hzz hbb
    have := run_make (P := P) w T U i z hT.h hu hzz k1 k2 c c (by omega) (Int.le_refl _) (by rw [hbb]; have : ((kb * c : Nat) : Int) ≤ 281474976710656 := by omega
                                                                                             rwa [Int.natCast_mul] at this) h63
    rw [hi, Int.toNat_natCast, hz, hc] at this
    simp [execOp, hx.eval rfl ha, hy.eval rfl ha, Sem.run_bind, this]) k
end Go.Proofs.YtfmdaijkgjkmpaaGreatDoor

set_option linter.unusedVariables false
set_option linter.unusedSimpArgs false
namespace Go.Proofs.YtfmdaijkgjkmpaaGreatDoor
open Go Go.RowKit
set_option maxRecDepth 100000 in
theorem ref_within (x : Int) (k : Nat) (w : World) (hk : k = 4 ∨ k = 8 ∨ k = 16 ∨ k = 32) : Fn Tryz.prog 89 [.int .i64 x, .int .i64 k] w [] fun v L' => v = .bool (decide (0 ≤ x) && decide (x < 2 ^ k)) ∧ L' = [] := by
  have e : IntKind.i64.wrap (1 * 2 ^ ((k : Nat) : Int).toNat) = 2 ^ k := by rw [Int.toNat_natCast, Int.one_mul]; rcases hk with rfl | rfl | rfl | rfl <;> rfl
  refine Fn.enter Tryz.func89 rfl rfl rfl rfl (Holds.nil w) ?_
  refine CW.seq ?_
  refine CW.region ?_
  refine W.p O.as ?_
  refine WL.nil (Q.tn ?_)
  refine CW.seq ?_
  refine CW.region ?_
  refine W.p O.mv ?_
  refine W.p O.geq ?_
  refine W.p O.mv ?_
  refine W.p O.mv ?_
  refine W.p O.mv ?_
  refine W.p O.shl ?_
  refine W.p O.lss ?_
  refine W.p O.pkB ?_
  refine W.p O.as ?_
  refine WL.nil (Q.tn ?_)
  refine CW.ret ?_
  refine ⟨_, [], (RVs.tmp rfl RVs.nil), List.nil_sublist _, ?_⟩
  refine ⟨congrArg Value.bool ?_, rfl⟩
  rw [e]; cases decide (0 ≤ x) <;> rfl
end Go.Proofs.YtfmdaijkgjkmpaaGreatDoor

namespace Go.Proofs.YtfmdaijkgjkmpaaGreatDoor
open Go Go.RowKit
abbrev wr : Int → Int := IntKind.i64.wrap
theorem wr_in : ∀ x : Int, 0 ≤ x → x ≤ 4611686018427387904 → wr x = x := fun x h0 h1 => wrap_in x (by omega)
theorem wr_in2 : ∀ x : Int, -4611686018427387904 ≤ x → x ≤ 4611686018427387904 → wr x = x := fun x h0 h1 => wrap_in x (by omega)
end Go.Proofs.YtfmdaijkgjkmpaaGreatDoor

set_option linter.unusedVariables false
set_option linter.unusedSimpArgs false
namespace Go.Proofs.YtfmdaijkgjkmpaaGreatDoor
open Go Go.RowKit
theorem or_n (i : Nat) (hi : (2 : Int) ^ i ≤ 4611686018427387904) {x y : Int} (x0 : 0 ≤ x) (x1 : x < 4611686018427387904) (hx : x % 2 ^ i = 0) (y0 : 0 ≤ y) (y1 : y < 2 ^ i) : bits .or .i64 x y = x + y :=
  bits_join .i64 62 (by decide) (fun n h0 h1 => wrap_in n (by omega)) i x y x0 hx (by omega) y0 y1 (by omega)
theorem by_rng (a : UInt8) : 0 ≤ (a.toNat : Int) ∧ (a.toNat : Int) < 256 := by have := a.toNat_lt; omega
theorem be2 (c d : UInt8) : bits .or .i64 (IntKind.i64.wrap ((c.toNat : Int) * 2 ^ (8 : Int).toNat)) (d.toNat : Int) = numI [c, d] := by
  have hc := by_rng c
  have hd := by_rng d
  have e3 : (2 : Int) ^ (8 : Int).toNat = 256 := by decide
  rw [e3, wrap_in _ (by omega), or_n 8 (by decide) (by omega) (by omega) (by omega) (by omega) (by omega)]
  simp only [numI, List.foldl_cons, List.foldl_nil]; omega
theorem slc_2 {s : List UInt8} {k : Int} (h0 : 0 ≤ k) (h : k + 2 ≤ s.length) : slc s k (k + 2) = [s.getD k.toNat 0, s.getD (k + 1).toNat 0] := by
  rw [show k + 2 = k + 1 + 1 by omega, slc_more h0 (by omega) (by omega), slc_one h0 (by omega)]; rfl
abbrev BE2 (s : List UInt8) (k : Int) : Int := bits .or .i64 (IntKind.i64.wrap (((s.getD k.toNat 0).toNat : Int) * 2 ^ (8 : Int).toNat)) ((s.getD (k + 1).toNat 0).toNat : Int)
theorem BE2_num {s : List UInt8} {k : Int} (h0 : 0 ≤ k) (h : k + 2 ≤ s.length) : BE2 s k = numI (slc s k (k + 2)) := by rw [slc_2 h0 h]; exact be2 _ _
end Go.Proofs.YtfmdaijkgjkmpaaGreatDoor

set_option linter.unusedVariables false
set_option linter.unusedSimpArgs false
namespace Go.Proofs.YtfmdaijkgjkmpaaGreatDoor
open Go Go.RowKit
section
variable {P : Program} {w0 w : World} {L0 L L' : Heap} {T U ty : TypeId} {α : Type} {enc : α → List Value} {m k : Nat} {dv : α} {z : Value}
theorem run_apN {g n c : Nat} {c2 : Nat} {a : Option Addr} [hT : TSlice P T U] [hS : TSize P U m] (h : n ≤ c) (w : World) : (Builtin.append_ #[T, T] ty #[.slice (oa (some g)) n c, .slice a 0 c2]).run P w = .ok (.slice (oa (some g)) n c) w := by
  have hi := hS.h
  cases hu : P.info? U with
  | none => simp [hu] at hi
  | some i =>
  simp only [hu, Option.map_some, Option.some.injEq] at hi
  subst hi
  have hf : (Builtin.firstCells i.size 0 (.slice a 0 c2)).run P w = .ok #[] w := by
    cases a with
    | none => exact run_firstCells_none w _ _ _ _
    | some q => exact run_firstCells_some w i.size 0 q 0 c2 [] (by simp) (by simp)
  simp [Builtin.append_, oa, run_underlying hT.h, sizeOf, typeInfo, hu, Builtin.lenOf, hf, storeCells, h]
theorem run_apW {g : Nat} {c2 : Nat} {xs ys : List α} {sp : List Value} {a : Option Addr} [hT : TSlice P T U] [hS : TSize P U m] [hZ : TZero P U z] [hB : TByt P U k] [he : Enc enc m dv] [h1 : EncOne enc]
    (hz : z.cells.size = m) (hw : Upd w0 L0 w L) (hin : (g, .cells (flat enc xs sp).toArray U (0, 0)) ∈ L) (hy : In w a (ys.flatMap enc)) (hne : ys ≠ []) (hb : (xs.length + ys.length) * k ≤ 140737488355328) :
    ∃ b c' sp' w', (Builtin.append_ #[T, T] ty #[.slice (oa (some g)) xs.length xs.length, .slice a ys.length c2]).run P w = .ok (.slice (oa (some b)) (xs ++ ys).length c') w' ∧ Upd w0 L0 w' (rowL (some b) U (flat enc (xs ++ ys) sp') ++ L) := by
  have hn1 : xs.length + ys.length ≤ 140737488355328 := Nat.le_trans (Nat.le_mul_of_pos_right _ hB.pos) hb
  have hi := hS.h; have hzz := hZ.h; have hbb := hB.h
  cases hu : P.info? U with
  | none => simp [hu] at hi
  | some i =>
  simp only [hu, Option.map_some, Option.some.injEq, Option.bind_some] at hi hzz hbb
  subst hi; subst hbb
  have fl : ∀ l : List α, (l.flatMap enc).length = l.length * i.size := by
    intro l
    induction l with
    | nil => simp
    | cons y l ih => simp only [List.flatMap_cons, List.length_append, he.hm, ih, List.length_cons, Nat.add_mul]; omega
  have hyl : 0 < ys.length := List.length_pos_iff.2 hne
  have hnewl := fl ys
  obtain ⟨b2, o2, arr, U2, fz2, rfl, hb2, hc2⟩ : ∃ b o arr U fz, a = some ⟨b, o, none⟩ ∧ w.heap[b]? = some (.cells arr U fz) ∧ ∀ k, k < (ys.flatMap enc).length → arr[o + k]? = (ys.flatMap enc)[k]? := by
    rcases hy with h | h
    · have := hnewl; rw [h] at this
      have : 0 < ys.length * i.size := Nat.mul_pos hyl he.pos
      simp at *; omega
    · exact h
  have hnews : ∀ j v, (ys.flatMap enc)[j]? = some v → w.cell? ((⟨b2, o2, none⟩ : Addr).add j) = some v := fun j v hv => by
    have hj := (List.getElem?_eq_some_iff.1 hv).1
    rw [Addr.add_at]
    unfold World.cell?
    simp [hb2, hc2 j hj, hv]
  have hmax : xs.length + ys.length ≤ maxLen := by simp only [maxLen]; omega
  have hlen' : (xs ++ ys).length = xs.length + ys.length := List.length_append
  have hg : w.heap[g]? = some (.cells (flat enc xs sp).toArray U (0, 0)) := hw.has (g, .cells (flat enc xs sp).toArray U (0, 0)) hin
  have holds : ∀ j u, (xs.flatMap enc)[j]? = some u → w.cell? ((⟨g, 0, none⟩ : Addr).add j) = some u := fun j u hu' => by
    have hj := (List.getElem?_eq_some_iff.1 hu').1
    rw [Addr.add_at]
    unfold World.cell?
    simp only [hg, Option.isSome_none, Bool.false_eq_true, if_false, Nat.zero_add, List.getElem?_toArray, flat]
    rw [List.getElem?_append_left hj]; exact hu'
  have hr := run_append_grow (P := P) w T ty U i z hT.h hu hzz ⟨g, 0, none⟩ xs.length xs.length _ (fl xs) holds ⟨b2, o2, none⟩ ys.length c2 _ hnewl hnews (by omega) (by omega) (growslice_fits (by omega) hb)
  refine ⟨w.heap.size, _, (Builtin.zeroCells z.cells (grownCap w (xs.length + ys.length) xs.length U - (xs.length + ys.length))).toList, _, by rw [hlen']; exact hr, ?_⟩
  have h2 := (hw.same (w' := w.drew) rfl rfl rfl rfl).alloc (.cells ((xs.flatMap enc).toArray ++ (ys.flatMap enc).toArray ++ Builtin.zeroCells z.cells (grownCap w (xs.length + ys.length) xs.length U - (xs.length + ys.length))) U)
  have e : ((xs.flatMap enc).toArray ++ (ys.flatMap enc).toArray ++ Builtin.zeroCells z.cells (grownCap w (xs.length + ys.length) xs.length U - (xs.length + ys.length))) = (flat enc (xs ++ ys) (Builtin.zeroCells z.cells (grownCap w (xs.length + ys.length) xs.length U - (xs.length + ys.length))).toList).toArray := by
    apply Array.ext'; simp [flat]
  rw [e] at h2 ⊢
  exact h2
variable {d n : Nat} {all rest : List Oper} {E : Env} {Q : Post} {x y x1 x2 : Operand} {pos : String} {aft : Array Edge} {g' : Option (Nat × Bool)} {G : Bool} {ρ : Operand → Value} {D : Option Tmp}
/-- 'append' onto a full slice: of nothing; of something -/
theorem W.apV {g : Nat} {c2 nx ny : Nat} {xs ys : List α} {sp : List Value} {a : Option Addr} [hT : TSlice P T U] [hS : TSize P U m] [hZ : TZero P U z] [hB : TByt P U k] [he : Enc enc m dv] [h1 : EncOne enc]
    (hn : Nat.blt d n = true) (hx : Val true E x (.slice (oa (some g)) nx nx)) (hy : Val true E y (.slice a ny c2)) (hnx : nx = xs.length) (hny : ny = ys.length) (hz : z.cells.size = m)
    (hin : (g, .cells (flat enc xs sp).toArray U (0, 0)) ∈ L) [hr : RowL w0 L0 L a m α dv enc ys] (hb : (xs.length + ys.length) * k ≤ 140737488355328)
    (k1 : ys = [] → WL P n w0 L0 all rest ((d, true, .slice (oa (some g)) nx nx) :: E) L Q)
    (k2 : ∀ b c' sp', WL P n w0 L0 all rest ((d, true, .slice (oa (some b)) (xs ++ ys).length c') :: E) (rowL (some b) U (flat enc (xs ++ ys) sp') ++ L) Q) :
    WL P n w0 L0 all (⟨some d, .call ⟨.builtin .append, #[x, y], #[T, T]⟩, ty, pos, aft, none⟩ :: rest) E L Q := by
  by_cases hne : ys = []
  · refine W.loud rfl rfl hn (R := fun v L2 => v = .slice (oa (some g)) nx nx ∧ L2 = L) (fun A w ha hw => ?_) (by rintro v L2 ⟨rfl, rfl⟩; exact k1 hne)
    refine ⟨_, w, _, ?_, hw, rfl, rfl⟩
    subst hny; subst hne
    simp [execOp, resolve, invoke, builtin, Sem.run_bind, hx.eval rfl ha, hy.eval rfl ha, run_apN (P := P) (T := T) (U := U) (m := m) (g := g) (n := nx) (c := nx) (Nat.le_refl _) w]
  · refine W.loud rfl rfl hn (R := fun v L2 => ∃ b c' sp', v = .slice (oa (some b)) (xs ++ ys).length c' ∧ L2 = rowL (some b) U (flat enc (xs ++ ys) sp') ++ L) (fun A w ha hw => ?_) (by rintro v L2 ⟨b, c', sp', rfl, rfl⟩; exact k2 b c' sp')
    obtain ⟨b, c', sp', w', e1, e4⟩ := run_apW (P := P) (T := T) (U := U) (k := k) (ty := ty) (c2 := c2) hz hw hin (hr.h w hw) hne hb
    refine ⟨_, w', _, ?_, e4, b, c', sp', rfl, rfl⟩
    subst hnx; subst hny
    simp [execOp, resolve, invoke, builtin, Sem.run_bind, hx.eval rfl ha, hy.eval rfl ha, e1]
theorem r_sl3 {a : Option Addr} {len cap : Nat} {i j : Int} {ki kj : IntKind} (hx : ρ x = .slice a len cap) (hz : ρ x1 = .int ki i) (hz' : ρ x2 = .int kj j) [hT : TSlice P T U] [hU : TSize P U m] (h0 : 0 ≤ i) (h1 : i ≤ j) (h2 : j ≤ cap) :
    (execOp ρ ⟨D, .slice T x none (some x1) (some x2), ty, pos, aft, g'⟩).run P w = .ok (.value (.slice a i.toNat j.toNat)) w := by
  have e : (if j.toNat = 0 then a else a.map (·.add 0)) = a := by
    split
    · rfl
    · cases a with | none => rfl | some q => simp [Addr.add_zero']
  have h3 : 0 ≤ j := by omega
  have h5 : 0 ≤ max i 0 := by omega
  have h6 : i ≤ max j 0 := by omega
  have h7 : ¬ max j 0 < i := by omega
  simp [execOp, go_sem, run_underlying hT.h, Instr.sliceAt, Instr.slice, Instr.sliceBounds, Instr.sliceBound, asIntOf, hx, hz, hz', h0, h1, h2, h3, h5, h6, h7, e, TSize.run (T := U) w, Sem.run_bind]
/-- a slice's beginning, its room told -/
theorem O.sl3 {a : Option Addr} {len cap : Nat} {i j : Int} {ki kj : IntKind} [hT : TSlice P T U] [hU : TSize P U m] (hp : Pre n all E g' d G := by exact ⟨rfl, rfl⟩) (hx : Val G E x (.slice a len cap) := by first | exact vt rfl | exact vs rfl) (hz : Val G E x1 (.int ki i) := by first | exact vt rfl | exact vs rfl) (hz' : Val G E x2 (.int kj j) := by first | exact vt rfl | exact vs rfl) (h : G = true → 0 ≤ i ∧ i ≤ j ∧ j ≤ cap := by (intro _; omega)) :
    QV P n w0 L0 all ⟨some d, .slice T x none (some x1) (some x2), ty, pos, aft, g'⟩ E L d G (.slice a i.toNat j.toNat) :=
  O.val rfl hp (fun hG A w ha hw => r_sl3 (U := U) (m := m) (hx.eval hG ha) (hz.eval hG ha) (hz'.eval hG ha) (h hG).1 (h hG).2.1 (h hG).2.2)
end
end Go.Proofs.YtfmdaijkgjkmpaaGreatDoor
