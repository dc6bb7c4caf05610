/- Several texts in one (AnA). Their conditions are their own. -/
import Derived.Test.YtfmdaijkgjkmpaaGreatDoorPAns
import Derived.Test.YtfmdaijkgjkmpaaGreatDoorLaw0
import Derived.Test.YtfmdaijkgjkmpaaGreatDoorZnD
import Derived.Test.YtfmdaijkgjkmpaaGreatDoorZrA
import Derived.Test.YtfmdaijkgjkmpaaGreatDoorDnA
set_option linter.unusedVariables false
set_option linter.unusedSimpArgs false
namespace Go.Proofs.YtfmdaijkgjkmpaaGreatDoor
open Go Go.RowKit
section
variable {P : Program} {ρ : Operand → Value} {D : Option Tmp} {d n : Nat} {w0 w : World} {L0 L L' : Heap} {all rest : List Oper} {E : Env} {Q : Post} {x y z : Operand} {T T' U ty : TypeId} {pos : String} {aft : Array Edge} {g : Option (Nat × Bool)} {G : Bool}
theorem run_eqslD (k : Nat) {o : Option Nat} {m c : Nat} (hT : P.underlying T = some (.slice U)) : (Op.equalIn (k + 1) T (.slice (oa o) m c) (.slice none 0 0)).run P w = .ok o.isNone w := by
 cases o <;> simp [Op.equalIn, run_underlying hT, oa]
theorem run_eqsl {o : Option Nat} {m c : Nat} (hT : P.underlying T = some (.slice U)) : (Op.equal T (.slice (oa o) m c) (.slice none 0 0)).run P w = .ok o.isNone w := run_eqslD 9999 hT
theorem r_neSl {o : Option Nat} {m c : Nat} [hT : TSlice P T U] (hx : ρ x = .slice (oa o) m c) (hy : ρ y = .slice none 0 0) : (execOp ρ ⟨D, .binOp .neq T x y T', ty, pos, aft, g⟩).run P w = .ok (.value (.bool o.isSome)) w := by
 cases o <;> simp [execOp, hx, hy, go_sem, binOp, Sem.run_bind, eqGuard, run_eqsl hT.h]
/-- a row against none -/
theorem O.neSl {o : Option Nat} {m c : Nat} [hT : TSlice P T U] (hp : Pre n all E g d G := by exact ⟨rfl, rfl⟩) (hx : Val G E x (.slice (oa o) m c) := by first | exact vt rfl | exact vs rfl) (hy : Val G E y (.slice none 0 0) := by first | exact vt rfl | exact vs rfl) : QV P n w0 L0 all ⟨some d, .binOp .neq T x y T', ty, pos, aft, g⟩ E L d G (.bool o.isSome) :=
 O.val rfl hp (fun hG a w ha hw => by rw [r_neSl (U := U) (hx.eval hG ha) (hy.eval hG ha)])
end
/-- the records of a row that are so -/
def OfR (xs : List RR) (v : Value) (L' : Heap) : Prop := ∃ o c' sp, v = .slice (oa o) xs.length c' ∧ OwnOk o c' 7 xs.length (List.length sp) ∧ (o.isSome = true ↔ xs ≠ []) ∧ L' = rowL o 58 (flat encR xs sp)
theorem of_up {rs : List RR} {nm : List UInt8} {k i : Int} (h0 : 0 ≤ i) (h1 : i < rs.length) : ofR (rs.take (i + 1).toNat) nm k = ofR (rs.take i.toNat) nm k ++ (if (decide ((rs.getD i.toNat dR).name = nm) && (decide ((rs.getD i.toNat dR).type = k) || decide (k = 255))) = true then [rs.getD i.toNat dR] else []) := by
 rw [take_at' dR h0 h1, ofR, List.filter_append]
 simp only [ofR]
 congr 1
 simp only [List.filter_cons, List.filter_nil]
theorem of_le {rs : List RR} {nm : List UInt8} {k : Int} : (ofR rs nm k).length ≤ rs.length := List.length_filter_le _ _
set_option maxRecDepth 100000 in
theorem an_of (rs : List RR) (a : Option Addr) (cc : Nat) (nm : List UInt8) (k : Int) (w : World) (h : In w a (rs.flatMap encR)) (hn : rs.length ≤ 1048576) : Fn Tryz.prog 39 [.slice a rs.length cc, .string (S nm), .int .i64 k] w [] (OfR (ofR rs nm k)) := by
 have row := Row.ofE (dv := dR) h
 refine Fn.enter Tryz.func39 rfl rfl rfl rfl (Holds.nil w) ?_
 refine W.go ?_
 refine CW.loopA (X := Int × (List RR) × (Option Nat) × Nat × (List Value)) (fun ⟨i, out, o, ca, sp⟩ => [(1, true, .string (S nm)), (2, true, .int .i64 k), (7, true, .slice (oa o) out.length ca), (10, true, .slice a rs.length cc), (11, true, .int .i64 rs.length), (12, true, .int .i64 i)]) (fun ⟨i, out, o, ca, sp⟩ => rowL o 58 (flat encR out sp)) (fun ⟨i, out, o, ca, sp⟩ => 0 ≤ i ∧ i ≤ rs.length ∧ OwnOk o ca 7 out.length sp.length ∧ (o.isSome = true ↔ out ≠ []) ∧ out = ofR (rs.take i.toNat) nm k) (fun ⟨i, out, o, ca, sp⟩ => (rs.length - i).toNat) (0, [], none, 0, []) ?_ ?_
 ·exact ⟨by omega, by omega, OwnOk.nil, by simp, by simp [ofR]⟩
 rintro ⟨i, out, o, ca, sp⟩ hI
 try dsimp only at hI ⊢
 obtain ⟨h0, h1, hok, hso, hout⟩ := hI
 have nk := hok.nk
 have hol : out.length ≤ i := by rw [hout]; exact Int.le_trans (Int.ofNat_le.2 of_le) (by rw [List.length_take]; omega)
 refine W.go ?_
 refine CW.cond (vt rfl) (fun hc1 => ?_) (fun hc1 => ?_)
 ·try simp only [sk] at hc1
  refine W.go ?_
  refine W.al rfl rfl fun b1 => ?_
  refine W.st (vt rfl) (vt rfl) rfl ?_
  refine W.go ?_
  refine CW.cond (vt rfl) (fun hc2 => ?_) (fun hc2 => ?_)
  ·try simp only [sk] at hc2
   have hof := of_up (nm := nm) (k := k) h0 hc1
   rw [← hout, if_pos (by simpa [or_comm] using hc2)] at hof
   refine CW.region ?_
   refine W.p O.mv ?_
   refine W.p O.lds ?_
   refine W.bs encR [⟨_, _, _, _, _, _, _⟩] rfl (PV.cons (vt rfl) (PV.nil)) rfl rfl rfl (by decide) rfl fun b2 => ?_
   refine W.ap rfl (vt rfl) (vt rfl) (by first | rfl | omega) (by first | rfl | omega) rfl (by first | assumption | exact OwnOk.nil | exact OwnOk.lit) (by first | omega | (simp; omega)) fun o1 c1 sp1 ok1 ne1 gt1 => ?_
   have nk1 := ok1.nk; have le1 := ok1.2.2.1; try simp only [List.length_append, List.length_cons, List.length_nil] at le1
   refine W.go ?_
   refine nextA (_, out ++ [rs.getD i.toNat dR], _, _, _) ?_ ?_
   ·try dsimp only
    refine ⟨by omega, by omega, by assumption, ?_, ?_⟩
    ·first | (obtain ⟨b, rfl⟩ := ne1 (by simp); simp) | (obtain ⟨b, rfl⟩ := ne2 (by simp); simp)
    ·rw [hof]
   ·try dsimp only
    omega
  try simp only [sk] at hc2
  have hof := of_up (nm := nm) (k := k) h0 hc1
  rw [← hout, if_neg (by intro hq; simp only [Bool.and_eq_true, Bool.or_eq_true, decide_eq_true_eq] at hq; clear hof hout hso; grind), List.append_nil] at hof
  refine W.go ?_
  refine nextA (_, out, _, _, _) ?_ ?_
  ·try dsimp only
   exact ⟨by omega, by omega, hok, hso, hof.symm⟩
  ·try dsimp only
   omega
 try simp only [sk] at hc1
 refine W.go ?_
 refine ⟨_, rowL o 58 (flat encR out sp), (RVs.tmp rfl RVs.nil), (by repeat (first | exact List.Sublist.refl _ | exact hSub _ | exact List.sublist_append_left _ _ | exact List.nil_sublist _ | refine List.Sublist.append (List.Sublist.refl _) ?_ | apply List.Sublist.cons_cons | apply List.Sublist.cons | exact List.sublist_append_left _ _ | refine List.Sublist.trans ?_ (List.sublist_append_right _ _))), ?_⟩
 rw [List.take_of_length_le (by omega)] at hout
 rw [← hout]; exact ⟨o, ca, sp, rfl, hok, hso, rfl⟩
set_option maxRecDepth 100000 in
theorem ref_of (rs : List RR) (a : Option Addr) (cc : Nat) (nm : List UInt8) (k : Int) (w : World) (h : In w a (rs.flatMap encR)) (hn : rs.length ≤ 1048576) : Fn Tryz.prog 44 [.slice a rs.length cc, .string (S nm), .int .i64 k] w [] (OfR (ofR rs nm k)) := by
 have row := Row.ofE (dv := dR) h
 refine Fn.enter Tryz.func44 rfl rfl rfl rfl (Holds.nil w) ?_
 refine W.go ?_
 refine CW.loopA (X := Int × (List RR) × (Option Nat) × Nat × (List Value)) (fun ⟨i, out, o, ca, sp⟩ => [(1, true, .string (S nm)), (2, true, .int .i64 k), (7, true, .slice (oa o) out.length ca), (0, true, .slice a rs.length cc), (8, true, .int .i64 i)]) (fun ⟨i, out, o, ca, sp⟩ => rowL o 58 (flat encR out sp)) (fun ⟨i, out, o, ca, sp⟩ => 0 ≤ i ∧ i ≤ rs.length ∧ OwnOk o ca 7 out.length sp.length ∧ (o.isSome = true ↔ out ≠ []) ∧ out = ofR (rs.take i.toNat) nm k) (fun ⟨i, out, o, ca, sp⟩ => (rs.length - i).toNat) (0, [], none, 0, []) ?_ ?_
 ·exact ⟨by omega, by omega, OwnOk.nil, by simp, by simp [ofR]⟩
 rintro ⟨i, out, o, ca, sp⟩ hI
 try dsimp only at hI ⊢
 obtain ⟨h0, h1, hok, hso, hout⟩ := hI
 have nk := hok.nk
 have hol : out.length ≤ i := by rw [hout]; exact Int.le_trans (Int.ofNat_le.2 of_le) (by rw [List.length_take]; omega)
 refine W.go ?_
 refine CW.cond (vt rfl) (fun hc1 => ?_) (fun hc1 => ?_)
 ·try simp only [sk] at hc1
  refine CW.skip (Q.tn ?_)
  refine CW.seq ?_
  refine CW.block ?_
  refine CW.seq ?_
  refine CW.region ?_
  refine W.p O.mv ?_
  refine W.p O.mv ?_
  refine W.p O.ixA ?_
  first | refine W.p O.fe ?_ | refine W.p O.feR ?_
  refine W.p O.ldE ?_
  refine W.p O.mv ?_
  refine W.p O.eqS ?_
  refine W.p O.mv ?_
  refine W.p O.mv ?_
  refine W.p O.eqI ?_
  refine W.p O.mv ?_
  refine W.p O.mv ?_
  refine W.p O.mv ?_
  refine W.p O.ixA ?_
  first | refine W.p O.fe ?_ | refine W.p O.feR ?_
  refine W.go ?_
  refine CW.cond (vt rfl) (fun hc2 => ?_) (fun hc2 => ?_)
  ·try simp only [sk] at hc2
   have hof := of_up (nm := nm) (k := k) h0 hc1
   rw [← hout, if_pos (by simpa [or_comm] using hc2)] at hof
   refine CW.region ?_
   refine W.p O.mv ?_
   refine W.p O.mv ?_
   refine W.p O.mv ?_
   refine W.p O.ixA ?_
   refine W.p O.ldsE ?_
   refine W.bs encR [⟨_, _, _, _, _, _, _⟩] rfl (PV.cons (vt rfl) (PV.nil)) rfl rfl rfl (by decide) rfl fun b1 => ?_
   refine W.ap rfl (vt rfl) (vt rfl) (by first | rfl | omega) (by first | rfl | omega) rfl (by first | assumption | exact OwnOk.nil | exact OwnOk.lit) (by first | omega | (simp; omega)) fun o1 c1 sp1 ok1 ne1 gt1 => ?_
   have nk1 := ok1.nk; have le1 := ok1.2.2.1; try simp only [List.length_append, List.length_cons, List.length_nil] at le1
   refine W.go ?_
   refine nextA (_, out ++ [rs.getD i.toNat dR], _, _, _) ?_ ?_
   ·try dsimp only
    refine ⟨by omega, by omega, by assumption, ?_, ?_⟩
    ·first | (obtain ⟨b, rfl⟩ := ne1 (by simp); simp) | (obtain ⟨b, rfl⟩ := ne2 (by simp); simp)
    ·rw [hof]
   ·try dsimp only
    omega
  try simp only [sk] at hc2
  have hof := of_up (nm := nm) (k := k) h0 hc1
  rw [← hout, if_neg (by intro hq; simp only [Bool.and_eq_true, Bool.or_eq_true, decide_eq_true_eq] at hq; clear hof hout hso; grind), List.append_nil] at hof
  refine W.go ?_
  refine nextA (_, out, _, _, _) ?_ ?_
  ·try dsimp only
   exact ⟨by omega, by omega, hok, hso, hof.symm⟩
  ·try dsimp only
   omega
 try simp only [sk] at hc1
 refine W.go ?_
 refine ⟨_, rowL o 58 (flat encR out sp), (RVs.tmp rfl RVs.nil), (by repeat (first | exact List.Sublist.refl _ | exact hSub _ | exact List.sublist_append_left _ _ | exact List.nil_sublist _ | refine List.Sublist.append (List.Sublist.refl _) ?_ | apply List.Sublist.cons_cons | apply List.Sublist.cons | exact List.sublist_append_left _ _ | refine List.Sublist.trans ?_ (List.sublist_append_right _ _))), ?_⟩
 rw [List.take_of_length_le (by omega)] at hout
 rw [← hout]; exact ⟨o, ca, sp, rfl, hok, hso, rfl⟩
end Go.Proofs.YtfmdaijkgjkmpaaGreatDoor

set_option linter.unusedVariables false
set_option linter.unusedSimpArgs false
namespace Go.Proofs.YtfmdaijkgjkmpaaGreatDoor
open Go Go.RowKit
def RsNm (rs : List RR) : Prop := ∀ r ∈ rs, r.name.length ≤ 1048576 ∧ r.target.length ≤ 1048576
set_option maxRecDepth 100000 in
theorem lk_f1 (r : RR) (q : Qn') (p : Addr) (w : World) (hi : In w (some p) (encQ q)) (h1 : r.name.length ≤ 1048576) (h2 : q.name.length ≤ 1048576) : Fn Tryz.prog 41 [vR r, .pointer (some p)] w [] fun v L' => v = .bool (under r.name q.name) ∧ L' = [] := by
 have c0 : ∀ {L : Heap}, Cell w [] L (p.add 0) (.string (S q.name)) := fun {L} => cellQ hi rfl
 refine Fn.enter Tryz.func41 rfl rfl rfl rfl (Holds.nil w) ?_
 refine W.go ?_
 refine W.bx rfl (vt rfl) rfl fun b1 => ?_
 refine W.go ?_
 refine W.q (O.call ⟨rfl, rfl⟩ (AV.cons (vt rfl) (AV.cons (vt rfl) (AV.nil))) (fun _ w hw => nm_Under r.name q.name w (by omega) (by omega))) ?_
 refine W.go ?_
 refine ⟨_, [], (RVs.tmp rfl RVs.nil), List.nil_sublist _, ?_⟩
 exact ⟨rfl, rfl⟩
set_option maxRecDepth 100000 in
theorem lk_f2 (r : RR) (w : World) : Fn Tryz.prog 43 [vR r] w [] fun v L' => v = .bool (decide (r.type = 6)) ∧ L' = [] := by
 refine Fn.enter Tryz.func43 rfl rfl rfl rfl (Holds.nil w) ?_
 refine W.go ?_
 refine W.bx rfl (vt rfl) rfl fun b1 => ?_
 refine W.go ?_
 refine ⟨_, [], (RVs.tmp rfl RVs.nil), List.nil_sublist _, ?_⟩
 exact ⟨rfl, rfl⟩
theorem any_upN {α : Type} {f : α → Bool} {d : α} {xs : List α} {i : Int} (h0 : 0 ≤ i) (h1 : i < xs.length) : (xs.take (i + 1).toNat).any f = ((xs.take i.toNat).any f || f (xs.getD i.toNat d)) := by
 rw [take_at' d h0 h1, List.any_append]; simp
theorem any_atN {α : Type} {f : α → Bool} {d : α} {xs : List α} {i : Int} (h0 : 0 ≤ i) (h1 : i < xs.length) (h : f (xs.getD i.toNat d) = true) : xs.any f = true :=
 List.any_eq_true.2 ⟨_, mem_at d h0 h1, h⟩
set_option maxRecDepth 100000 in
theorem ix_L1 (xs : List RR) (q : Qn') (p : Addr) (a : Option Addr) (c : Nat) (w : World) (h : In w a (xs.flatMap encR)) (hq : In w (some p) (encQ q)) (hn : xs.length ≤ 1048576) (hk : RsNm xs) (h2 : q.name.length ≤ 1048576) :
  Fn Tryz.prog 79 [.slice a xs.length c, .func (.func 41) #[] #[.pointer (some p)]] w [] fun v L' => ∃ k : Int, v = .int .i64 k ∧ L' = [] ∧ decide (0 ≤ k) = xs.any (fun x => under x.name q.name) := by
 have row := Row.ofE (dv := dR) h
 refine Fn.enter Tryz.func79 rfl rfl rfl rfl (Holds.nil w) ?_
 refine W.go ?_
 refine CW.loopA (X := Int) (fun i => [(0, true, .slice a xs.length c), (1, true, .func (.func 41) #[] #[.pointer (some p)]), (7, true, .int .i64 xs.length), (8, true, .int .i64 i)]) (fun i => []) (fun i => 0 ≤ i ∧ i ≤ xs.length ∧ (xs.take i.toNat).any (fun x => under x.name q.name) = false) (fun i => (xs.length - i).toNat) (0) ?_ ?_
 ·exact ⟨by omega, by omega, rfl⟩
 rintro i hI
 try dsimp only at hI ⊢
 obtain ⟨h0, h1, hr⟩ := hI
 refine W.go ?_
 refine CW.cond (vt rfl) (fun hc1 => ?_) (fun hc1 => ?_)
 ·try simp only [sk] at hc1
  have hnm := hk _ (mem_at dR h0 hc1)
  refine W.go ?_
  refine W.callN (first := []) (cap := [.pointer (some p)]) rfl (vt rfl) (AV.cons (vt rfl) (AV.nil)) (fun w hu => lk_f1 (xs.getD i.toNat dR) q p w (hq.upd (L0 := []) hu) hnm.1 h2) ?_; rintro _ _ ⟨rfl, rfl⟩
  refine W.go ?_
  refine CW.cond (vt rfl) (fun hc2 => ?_) (fun hc2 => ?_)
  ·try simp only [sk] at hc2
   refine W.go ?_
   refine ⟨_, [], (RVs.tmp rfl RVs.nil), List.nil_sublist _, ?_⟩
   refine ⟨i, rfl, rfl, ?_⟩
   rw [decide_eq_true h0, any_atN (d := dR) h0 hc1 hc2]
  try simp only [sk] at hc2
  refine W.go ?_
  refine nextA (_) ?_ ?_
  ·try dsimp only
   exact ⟨by omega, by omega, by rw [any_upN (d := dR) h0 hc1, hr, hc2]; rfl⟩
  ·try dsimp only
   omega
 try simp only [sk] at hc1
 refine W.go ?_
 refine ⟨_, [], (RVs.tmp rfl RVs.nil), List.nil_sublist _, ?_⟩
 refine ⟨-1, rfl, rfl, ?_⟩
 have e : xs.take i.toNat = xs := List.take_of_length_le (by omega)
 rw [e] at hr; rw [hr]; rfl
set_option maxRecDepth 100000 in
theorem cf_L1 (xs : List RR) (q : Qn') (p : Addr) (a : Option Addr) (c : Nat) (w : World) (h : In w a (xs.flatMap encR)) (hq : In w (some p) (encQ q)) (hn : xs.length ≤ 1048576) (hk : RsNm xs) (h2 : q.name.length ≤ 1048576) :
  Fn Tryz.prog 40 [.slice a xs.length c, .func (.func 41) #[] #[.pointer (some p)]] w [] fun v L' => v = .bool (xs.any (fun x => under x.name q.name)) ∧ L' = [] := by
 refine Fn.enter Tryz.func40 rfl rfl rfl rfl (Holds.nil w) ?_
 refine W.go ?_
 refine W.callN (first := []) (cap := []) rfl (vt rfl) (AV.cons (vt rfl) (AV.cons (vt rfl) (AV.nil))) (fun w hu => ix_L1 xs q p _ _ w (h.upd (L0 := []) hu) (hq.upd (L0 := []) hu) hn hk h2) ?_; rintro _ _ ⟨k, rfl, rfl, hk2⟩
 refine W.go ?_
 refine ⟨_, [], (RVs.tmp rfl RVs.nil), List.nil_sublist _, ?_⟩
 rw [← hk2]; exact ⟨rfl, rfl⟩
theorem soa_up {rs : List RR} {i : Int} (h0 : 0 ≤ i) (h1 : i < rs.length) : soaR (rs.take (i + 1).toNat) = if soaR (rs.take i.toNat) = [] then (if (rs.getD i.toNat dR).type = 6 then [rs.getD i.toNat dR] else []) else soaR (rs.take i.toNat) := by
 rw [take_at' dR h0 h1, soaR, List.filter_append, soaR]
 cases hf : (rs.take i.toNat).filter (fun r => decide (r.type = 6)) with
 | nil =>
  rw [List.nil_append, if_pos (by rfl)]
  by_cases ht : (rs.getD i.toNat dR).type = 6
  ·rw [if_pos ht, List.filter_cons_of_pos (by simpa using ht)]; rfl
  ·rw [if_neg ht, List.filter_cons_of_neg (by simpa using ht)]; rfl
 | cons a r =>
  rw [if_neg (by simp)]; simp
theorem soa_first {rs : List RR} {i : Int} (h0 : 0 ≤ i) (h1 : i < rs.length) (h : soaR (rs.take i.toNat) = []) (ht : (rs.getD i.toNat dR).type = 6) : soaR rs = [rs.getD i.toNat dR] := by
 have e : rs = rs.take (i + 1).toNat ++ rs.drop (i + 1).toNat := (List.take_append_drop _ _).symm
 have h2 := soa_up h0 h1
 rw [h, if_pos rfl, if_pos ht] at h2
 have h3 : soaR rs = (soaR (rs.take (i + 1).toNat) ++ (rs.drop (i + 1).toNat).filter (fun r => decide (r.type = 6))).take 1 := by
  conv => lhs; rw [e, soaR, List.filter_append]
  rw [h2]
  have h4 : (rs.take (i + 1).toNat).filter (fun r => decide (r.type = 6)) = [rs.getD i.toNat dR] := by
   rw [take_at' dR h0 h1, List.filter_append]
   have h5 : (rs.take i.toNat).filter (fun r => decide (r.type = 6)) = [] := by
    rw [soaR] at h
    cases hf : (rs.take i.toNat).filter (fun r => decide (r.type = 6)) with
    | nil => rfl
    | cons a r => rw [hf] at h; simp at h
   rw [h5, List.filter_cons_of_pos (by simpa using ht)]; rfl
  rw [h4]
 rw [h3, h2]; rfl
set_option maxRecDepth 100000 in
theorem ix_L2 (xs : List RR) (a : Option Addr) (c : Nat) (w : World) (h : In w a (xs.flatMap encR)) (hn : xs.length ≤ 1048576) :
  Fn Tryz.prog 79 [.slice a xs.length c, .func (.func 43) #[] #[]] w [] fun v L' => ∃ k : Int, v = .int .i64 k ∧ L' = [] ∧ ((k < 0 ∧ soaR xs = []) ∨ (0 ≤ k ∧ k < xs.length ∧ soaR xs = [xs.getD k.toNat dR])) := by
 have row := Row.ofE (dv := dR) h
 refine Fn.enter Tryz.func79 rfl rfl rfl rfl (Holds.nil w) ?_
 refine W.go ?_
 refine CW.loopA (X := Int) (fun i => [(0, true, .slice a xs.length c), (1, true, .func (.func 43) #[] #[]), (7, true, .int .i64 xs.length), (8, true, .int .i64 i)]) (fun i => []) (fun i => 0 ≤ i ∧ i ≤ xs.length ∧ soaR (xs.take i.toNat) = []) (fun i => (xs.length - i).toNat) (0) ?_ ?_
 ·exact ⟨by omega, by omega, rfl⟩
 rintro i hI
 try dsimp only at hI ⊢
 obtain ⟨h0, h1, hr⟩ := hI
 refine W.go ?_
 refine CW.cond (vt rfl) (fun hc1 => ?_) (fun hc1 => ?_)
 ·try simp only [sk] at hc1
  refine W.go ?_
  refine W.callN (first := []) (cap := []) rfl (vt rfl) (AV.cons (vt rfl) (AV.nil)) (fun w hu => lk_f2 (xs.getD i.toNat dR) w) ?_; rintro _ _ ⟨rfl, rfl⟩
  refine W.go ?_
  refine CW.cond (vt rfl) (fun hc2 => ?_) (fun hc2 => ?_)
  ·try simp only [sk] at hc2
   refine W.go ?_
   refine ⟨_, [], (RVs.tmp rfl RVs.nil), List.nil_sublist _, ?_⟩
   exact ⟨i, rfl, rfl, .inr ⟨h0, hc1, soa_first h0 hc1 hr (by simpa using hc2)⟩⟩
  try simp only [sk] at hc2
  refine W.go ?_
  refine nextA (_) ?_ ?_
  ·try dsimp only
   exact ⟨by omega, by omega, by rw [soa_up h0 hc1, if_pos hr, if_neg (by simpa using hc2)]⟩
  ·try dsimp only
   omega
 try simp only [sk] at hc1
 refine W.go ?_
 refine ⟨_, [], (RVs.tmp rfl RVs.nil), List.nil_sublist _, ?_⟩
 have e : xs.take i.toNat = xs := List.take_of_length_le (by omega)
 rw [e] at hr; exact ⟨-1, rfl, rfl, .inl ⟨by omega, hr⟩⟩
set_option maxRecDepth 100000 in
theorem an_first (rs : List RR) (a : Option Addr) (cc : Nat) (w : World) (h : In w a (rs.flatMap encR)) (hn : rs.length ≤ 1048576) : Fn Tryz.prog 42 [.slice a rs.length cc, .func (.func 43) #[] #[]] w [] (OfR (soaR rs)) := by
 have row := Row.ofE (dv := dR) h
 refine Fn.enter Tryz.func42 rfl rfl rfl rfl (Holds.nil w) ?_
 refine W.go ?_
 refine W.callN (first := []) (cap := []) rfl (vt rfl) (AV.cons (vt rfl) (AV.cons (vt rfl) (AV.nil))) (fun w hu => ix_L2 rs a cc w (h.upd (L0 := []) hu) hn) ?_; rintro _ _ ⟨k, rfl, rfl, hk2⟩
 refine W.go ?_
 refine CW.cond (vt rfl) (fun hc1 => ?_) (fun hc1 => ?_)
 ·try simp only [sk] at hc1
  refine W.go ?_
  refine ⟨_, [], (RVs.tmp rfl RVs.nil), List.nil_sublist _, ?_⟩
  have hno : soaR rs = [] := by rcases hk2 with ⟨x1, x2⟩ | ⟨x1, _⟩; (exact x2); (omega)
  rw [hno]; exact ⟨none, 0, [], rfl, OwnOk.nil, by simp, rfl⟩
 try simp only [sk] at hc1
 obtain ⟨k0, k1, k2⟩ : 0 ≤ k ∧ k < rs.length ∧ soaR rs = [rs.getD k.toNat dR] := by rcases hk2 with ⟨x1, x2⟩ | x; (omega); exact x
 refine CW.skip (Q.tn ?_)
 refine CW.seq ?_
 refine CW.region ?_
 refine W.p O.mv ?_
 refine W.p O.mv ?_
 refine W.p O.ixA ?_
 refine W.p O.ldsE ?_
 refine W.bs encR [⟨_, _, _, _, _, _, _⟩] rfl (PV.cons (vt rfl) (PV.nil)) rfl rfl rfl (by decide) rfl fun b1 => ?_
 refine W.go ?_
 refine ⟨_, rowL (some b1) 58 (flat encR [rs.getD k.toNat dR] []), (RVs.tmp rfl RVs.nil), (by repeat (first | exact List.Sublist.refl _ | exact hSub _ | exact List.sublist_append_left _ _ | exact List.nil_sublist _ | refine List.Sublist.append (List.Sublist.refl _) ?_ | apply List.Sublist.cons_cons | apply List.Sublist.cons | exact List.sublist_append_left _ _ | refine List.Sublist.trans ?_ (List.sublist_append_right _ _))), ?_⟩
 rw [k2]; exact ⟨some b1, 1, [], rfl, ⟨by simp, rfl, Nat.le_refl _, by decide⟩, by simp, rfl⟩
end Go.Proofs.YtfmdaijkgjkmpaaGreatDoor

set_option linter.unusedVariables false
set_option linter.unusedSimpArgs false
namespace Go.Proofs.YtfmdaijkgjkmpaaGreatDoor
open Go Go.RowKit
/-- what is looked up, as it lies -/
def LkR (x : Int × List RR × List RR) (v : Value) (L' : Heap) : Prop := ∃ o1 c1 p1 o2 c2 p2, v = .tuple #[.int .i64 x.1, .slice (oa o1) x.2.1.length c1, .slice (oa o2) x.2.2.length c2] ∧ NilOk o1 x.2.1 ∧ NilOk o2 x.2.2 ∧ L' = rowL o1 58 (flat encR x.2.1 p1) ++ rowL o2 58 (flat encR x.2.2 p2)
theorem look_1 {rs : List RR} {q : Qn'} {z : List UInt8} (h : under q.name z = false ∧ under q.name arpaN = false) : look rs q z = (5, [], []) := by unfold look; rw [if_pos h]
theorem look_2 {rs : List RR} {q : Qn'} {z : List UInt8} (h : ¬(under q.name z = false ∧ under q.name arpaN = false)) (h2 : ofR rs q.name q.type ≠ []) : look rs q z = (0, ofR rs q.name q.type, []) := by unfold look; rw [if_neg h, if_pos h2]
theorem look_3 {rs : List RR} {q : Qn'} {z : List UInt8} (h : ¬(under q.name z = false ∧ under q.name arpaN = false)) (h2 : ofR rs q.name q.type = []) {r0 : RR} {rest : List RR} (h3 : ofR rs q.name 5 = r0 :: rest) : look rs q z = (0, [r0] ++ ofR rs r0.target q.type, []) := by
 unfold look; rw [if_neg h, if_neg (by simpa using h2), if_pos (by rw [h3]; simp), h3]; rfl
theorem look_4 {rs : List RR} {q : Qn'} {z : List UInt8} (h : ¬(under q.name z = false ∧ under q.name arpaN = false)) (h2 : ofR rs q.name q.type = []) (h3 : ofR rs q.name 5 = []) : look rs q z = (if rs.any (fun r => under r.name q.name) = true then 0 else 3, [], soaR rs) := by
 unfold look; rw [if_neg h, if_neg (by simpa using h2), if_neg (by simpa using h3)]
theorem of_nm {rs : List RR} {nm : List UInt8} {k : Int} (h : RsNm rs) {r0 : RR} {rest : List RR} (h3 : ofR rs nm k = r0 :: rest) : r0.name.length ≤ 1048576 ∧ r0.target.length ≤ 1048576 := h r0 (of_sub r0 (by rw [h3]; simp)).1
set_option maxRecDepth 100000 in
theorem an_Look (rs : List RR) (a : Option Addr) (cc : Nat) (q : Qn') (z : List UInt8) (w : World) (h : In w a (rs.flatMap encR)) (hn : rs.length ≤ 1048576) (hk : RsNm rs) (h2 : q.name.length ≤ 1048576) (h3 : z.length ≤ 1048576) :
  Fn Tryz.prog 14 [.slice a rs.length cc, .agg (encQ q).toArray, .string (S z)] w [] (LkR (look rs q z)) := by
 have row := Row.ofE (dv := dR) h
 have hl2 := of_le (rs := rs) (nm := q.name) (k := q.type)
 have hl5 := of_le (rs := rs) (nm := q.name) (k := 5)
 refine Fn.enter Tryz.func14 rfl rfl rfl rfl (Holds.nil w) ?_
 refine W.go ?_
 refine W.bx rfl (vt rfl) rfl fun b1 => ?_
 refine W.go ?_
 refine W.q (O.call ⟨rfl, rfl⟩ (AV.cons (vt rfl) (AV.cons (vt rfl) (AV.nil))) (fun _ w hw => nm_Under _ _ w (by omega) (by first | omega | decide))) ?_
 refine W.go ?_
 refine W.q (O.call ⟨rfl, rfl⟩ (AV.cons (vs rfl) (AV.cons (vt rfl) (AV.nil))) (fun _ w hw => nm_Under _ _ w (by omega) (by first | omega | decide))) ?_
 refine W.go ?_
 refine CW.cond (vt rfl) (fun hc1 => ?_) (fun hc1 => ?_)
 ·try simp only [sk] at hc1
  have hc1' : under q.name z = false ∧ under q.name arpaN = false := hc1
  refine W.go ?_
  refine ⟨_, [], (RVs.tmp rfl (RVs.tmp rfl (RVs.tmp rfl RVs.nil))), List.nil_sublist _, ?_⟩
  rw [look_1 hc1']; exact ⟨none, 0, [], none, 0, [], rfl, ⟨fun _ => rfl⟩, ⟨fun _ => rfl⟩, rfl⟩
 try simp only [sk] at hc1
 have hc1' : ¬(under q.name z = false ∧ under q.name arpaN = false) := by rintro ⟨x1, x2⟩; rcases hc1 with hq | hq; (rw [x1] at hq; cases hq); (have x3 : under q.name arpaN = true := hq; rw [x2] at x3; cases x3)
 refine W.go ?_
 refine W.callN (first := []) (cap := []) rfl (vt rfl) (AV.cons (vt rfl) (AV.cons (vt rfl) (AV.cons (vt rfl) (AV.nil)))) (fun w hu => an_of rs a cc q.name q.type w (h.upd (L0 := []) hu) hn) ?_; rintro _ _ ⟨o11, c11, p11, rfl, ok11, so11, rfl⟩; have nk11 := ok11.nk (α := RR) (xs := ofR rs q.name q.type)
 refine W.go ?_
 refine W.p O.neSl ?_
 refine W.go ?_
 refine CW.cond (vt rfl) (fun hc2 => ?_) (fun hc2 => ?_)
 ·try simp only [sk] at hc2
  have hne := so11.1 hc2
  refine W.go ?_
  refine ⟨_, rowL o11 58 (flat encR (ofR rs q.name q.type) p11), (RVs.tmp rfl (RVs.tmp rfl (RVs.tmp rfl RVs.nil))), (by repeat (first | exact List.Sublist.refl _ | exact hSub _ | exact List.sublist_append_left _ _ | exact List.nil_sublist _ | refine List.Sublist.append (List.Sublist.refl _) ?_ | apply List.Sublist.cons_cons | apply List.Sublist.cons | exact List.sublist_append_left _ _ | refine List.Sublist.trans ?_ (List.sublist_append_right _ _))), ?_⟩
  rw [look_2 hc1' hne]; exact ⟨o11, c11, p11, none, 0, [], rfl, nk11, ⟨fun _ => rfl⟩, by simp [rowL]⟩
 try simp only [sk] at hc2
 have hem : ofR rs q.name q.type = [] := Decidable.byContradiction fun hq => (Bool.eq_false_iff.1 hc2) (so11.2 hq)
 refine W.go ?_
 refine W.callN (first := []) (cap := []) rfl (vt rfl) (AV.cons (vt rfl) (AV.cons (vt rfl) (AV.cons (vt rfl) (AV.nil)))) (fun w hu => an_of rs a cc q.name 5 w (h.upd (L0 := []) hu) hn) ?_; rintro _ _ ⟨o12, c12, p12, rfl, ok12, so12, rfl⟩; have nk12 := ok12.nk (α := RR) (xs := ofR rs q.name 5)
 refine W.go ?_
 refine W.p O.neSl ?_
 refine W.go ?_
 refine CW.cond (vt rfl) (fun hc3 => ?_) (fun hc3 => ?_)
 ·try simp only [sk] at hc3
  obtain ⟨g, rfl⟩ : ∃ g, o12 = some g := Option.isSome_iff_exists.1 hc3
  obtain ⟨r0, rest, hr0⟩ : ∃ r0 rest, ofR rs q.name 5 = r0 :: rest := by have := so12.1 hc3; (cases hq : ofR rs q.name 5 with | nil => exact absurd hq this | cons x y => exact ⟨x, y, rfl⟩)
  have hnm0 := of_nm hk hr0
  have hl6 := of_le (rs := rs) (nm := r0.target) (k := q.type)
  have hc12 := ok12.2.2.1
  rw [hr0] at hl5 hc12 ⊢
  have hlc : (r0 :: rest).length = rest.length + 1 := rfl
  rw [List.length_cons] at hc12
  refine CW.seq ?_
  refine CW.drawH (rowL (some g) 58 (flat encR (r0 :: rest) p12) ++ (rowL o11 58 (flat encR (ofR rs q.name q.type) p11) ++ [(b1, .cells (encQ q).toArray 29 (0, 0))])) rfl ?_
  refine RH.qa 0 rfl (O.mv) ?_
  refine RH.qa 1 rfl (O.sl3) ?_
  refine RH.qa 2 rfl (O.mv) ?_
  refine RH.qa 3 rfl (O.mv) ?_
  refine RH.qa 4 rfl (O.ixA) ?_
  first | refine RH.qa 5 rfl (O.fe) ?_ | refine RH.qa 5 rfl (O.feR) ?_
  refine RH.qa 6 rfl (O.ldE) ?_
  first | refine RH.qa 7 rfl (O.fb) ?_ | refine RH.qa 7 rfl (O.fa) ?_
  refine RH.qa 8 rfl (O.ld) ?_
  refine RH.one (i := 9) (fun _ _ h => h) (by kernel_rfl) rfl ?_
  refine W.callN (first := []) (cap := []) rfl (vt rfl) (AV.cons (vt rfl) (AV.cons (vt rfl) (AV.cons (vt rfl) (AV.nil)))) (fun w hu => an_of rs a cc r0.target q.type w (h.upd (L0 := []) hu) hn) ?_; rintro _ _ ⟨o13, c13, p13, rfl, ok13, so13, rfl⟩; have nk13 := ok13.nk (α := RR) (xs := ofR rs r0.target q.type)
  refine WL.nilQa ?_
  refine RH.one (i := 10) (fun _ _ h => h) (by kernel_rfl) rfl ?_
  refine W.apV (g := g) (xs := [r0]) (sp := rest.flatMap encR ++ p12) rfl (vt rfl) (vt rfl) rfl rfl rfl (by rw [show flat encR [r0] (rest.flatMap encR ++ p12) = flat encR (r0 :: rest) p12 from (by simp [flat])]; simp [rowL]) (by first | omega | (simp; omega)) (fun hnil => ?_) (fun b9 c9 sp9 => ?_)
  ·refine WL.nilQa ?_
   refine RH.qa 11 rfl (O.as) ?_
   refine RH.qa 12 rfl (O.as) ?_
   refine RH.qa 13 rfl (O.as) ?_
   refine RH.done (by kernel_rfl) (Q.tn ?_)
   refine W.go ?_
   refine ⟨_, rowL (some g) 58 (flat encR (r0 :: rest) p12), (RVs.tmp rfl (RVs.tmp rfl (RVs.tmp rfl RVs.nil))), (by repeat (first | exact List.Sublist.refl _ | exact List.sublist_append_left _ _ | exact List.nil_sublist _ | apply List.Sublist.cons_cons | apply List.Sublist.cons | refine List.Sublist.trans ?_ (List.sublist_append_right _ _))), ?_⟩
   rw [look_3 hc1' hem hr0, hnil]; exact ⟨some g, 1, rest.flatMap encR ++ p12, none, 0, [], rfl, ⟨fun e => by cases e⟩, ⟨fun _ => rfl⟩, by simp [rowL, flat]⟩

  refine WL.nilQa ?_
  refine RH.qa 11 rfl (O.as) ?_
  refine RH.qa 12 rfl (O.as) ?_
  refine RH.qa 13 rfl (O.as) ?_
  refine RH.done (by kernel_rfl) (Q.tn ?_)
  refine W.go ?_
  refine ⟨_, rowL (some b9) 58 (flat encR ([r0] ++ ofR rs r0.target q.type) sp9), (RVs.tmp rfl (RVs.tmp rfl (RVs.tmp rfl RVs.nil))), (by repeat (first | exact List.Sublist.refl _ | exact hSub _ | exact List.sublist_append_left _ _ | exact List.nil_sublist _ | refine List.Sublist.append (List.Sublist.refl _) ?_ | apply List.Sublist.cons_cons | apply List.Sublist.cons | exact List.sublist_append_left _ _ | refine List.Sublist.trans ?_ (List.sublist_append_right _ _))), ?_⟩
  rw [look_3 hc1' hem hr0]; exact ⟨some b9, c9, sp9, none, 0, [], rfl, ⟨fun e => by cases e⟩, ⟨fun _ => rfl⟩, (List.append_nil _).symm⟩
 try simp only [sk] at hc3
 have hem5 : ofR rs q.name 5 = [] := Decidable.byContradiction fun hq => (Bool.eq_false_iff.1 hc3) (so12.2 hq)
 refine W.go ?_
 refine W.p (O.mf (hx := AV.nil) (hy := AV.cons (vt rfl) (AV.nil))) ?_
 refine W.q (O.call ⟨rfl, rfl⟩ (AV.cons (vt rfl) (AV.cons (vt rfl) (AV.nil))) (fun _ w hw => cf_L1 rs q ⟨b1, 0, none⟩ a cc w (h.upd (L0 := []) hw) (in_blk hw) hn hk h2)) ?_
 refine W.go ?_
 refine CW.cond (vt rfl) (fun hc4 => ?_) (fun hc4 => ?_)
 ·try simp only [sk] at hc4
  refine W.go ?_
  refine W.callN (first := []) (cap := []) rfl (vt rfl) (AV.cons (vt rfl) (AV.cons (vt rfl) (AV.nil))) (fun w hu => an_first rs a cc w (h.upd (L0 := []) hu) hn) ?_; rintro _ _ ⟨o14, c14, p14, rfl, ok14, so14, rfl⟩; have nk14 := ok14.nk (α := RR) (xs := soaR rs)
  refine W.go ?_
  refine ⟨_, rowL o14 58 (flat encR (soaR rs) p14), (RVs.tmp rfl (RVs.tmp rfl (RVs.tmp rfl RVs.nil))), (by repeat (first | exact List.Sublist.refl _ | exact hSub _ | exact List.sublist_append_left _ _ | exact List.nil_sublist _ | refine List.Sublist.append (List.Sublist.refl _) ?_ | apply List.Sublist.cons_cons | apply List.Sublist.cons | exact List.sublist_append_left _ _ | refine List.Sublist.trans ?_ (List.sublist_append_right _ _))), ?_⟩
  rw [look_4 hc1' hem hem5, if_pos hc4]; exact ⟨none, 0, [], o14, c14, p14, rfl, ⟨fun _ => rfl⟩, nk14, rfl⟩
 try simp only [sk] at hc4
 refine W.go ?_
 refine W.callN (first := []) (cap := []) rfl (vt rfl) (AV.cons (vt rfl) (AV.cons (vt rfl) (AV.nil))) (fun w hu => an_first rs a cc w (h.upd (L0 := []) hu) hn) ?_; rintro _ _ ⟨o14, c14, p14, rfl, ok14, so14, rfl⟩; have nk14 := ok14.nk (α := RR) (xs := soaR rs)
 refine W.go ?_
 refine ⟨_, rowL o14 58 (flat encR (soaR rs) p14), (RVs.tmp rfl (RVs.tmp rfl (RVs.tmp rfl RVs.nil))), (by repeat (first | exact List.Sublist.refl _ | exact hSub _ | exact List.sublist_append_left _ _ | exact List.nil_sublist _ | refine List.Sublist.append (List.Sublist.refl _) ?_ | apply List.Sublist.cons_cons | apply List.Sublist.cons | exact List.sublist_append_left _ _ | refine List.Sublist.trans ?_ (List.sublist_append_right _ _))), ?_⟩
 rw [look_4 hc1' hem hem5, if_neg (by rw [hc4]; decide)]; exact ⟨none, 0, [], o14, c14, p14, rfl, ⟨fun _ => rfl⟩, nk14, rfl⟩
set_option maxRecDepth 100000 in
theorem ref_Look (rs : List RR) (a : Option Addr) (cc : Nat) (q : Qn') (z : List UInt8) (w : World) (h : In w a (rs.flatMap encR)) (hn : rs.length ≤ 1048576) (hk : RsNm rs) (h2 : q.name.length ≤ 1048576) (h3 : z.length ≤ 1048576) :
  Fn Tryz.prog 15 [.slice a rs.length cc, .agg (encQ q).toArray, .string (S z)] w [] (LkR (look rs q z)) := by
 have row := Row.ofE (dv := dR) h
 have hl2 := of_le (rs := rs) (nm := q.name) (k := q.type)
 have hl5 := of_le (rs := rs) (nm := q.name) (k := 5)
 refine Fn.enter Tryz.func15 rfl rfl rfl rfl (Holds.nil w) ?_
 refine W.go ?_
 refine W.bx rfl (vt rfl) rfl fun b1 => ?_
 refine W.go ?_
 refine W.q (O.call ⟨rfl, rfl⟩ (AV.cons (vt rfl) (AV.cons (vt rfl) (AV.nil))) (fun _ w hw => ref_Under _ _ w (by omega) (by first | omega | decide))) ?_
 refine W.go ?_
 refine W.q (O.call ⟨rfl, rfl⟩ (AV.cons (vs rfl) (AV.cons (vt rfl) (AV.nil))) (fun _ w hw => ref_Under _ _ w (by omega) (by first | omega | decide))) ?_
 refine W.go ?_
 refine CW.cond (vt rfl) (fun hc1 => ?_) (fun hc1 => ?_)
 ·try simp only [sk] at hc1
  have hc1' : under q.name z = false ∧ under q.name arpaN = false := hc1
  refine W.go ?_
  refine ⟨_, [], (RVs.tmp rfl (RVs.tmp rfl (RVs.tmp rfl RVs.nil))), List.nil_sublist _, ?_⟩
  rw [look_1 hc1']; exact ⟨none, 0, [], none, 0, [], rfl, ⟨fun _ => rfl⟩, ⟨fun _ => rfl⟩, rfl⟩
 try simp only [sk] at hc1
 have hc1' : ¬(under q.name z = false ∧ under q.name arpaN = false) := by rintro ⟨x1, x2⟩; rcases hc1 with hq | hq; (rw [x1] at hq; cases hq); (have x3 : under q.name arpaN = true := hq; rw [x2] at x3; cases x3)
 refine W.go ?_
 refine W.callN (first := []) (cap := []) rfl (vt rfl) (AV.cons (vt rfl) (AV.cons (vt rfl) (AV.cons (vt rfl) (AV.nil)))) (fun w hu => ref_of rs a cc q.name q.type w (h.upd (L0 := []) hu) hn) ?_; rintro _ _ ⟨o11, c11, p11, rfl, ok11, so11, rfl⟩; have nk11 := ok11.nk (α := RR) (xs := ofR rs q.name q.type)
 refine W.go ?_
 refine CW.cond (vt rfl) (fun hc2 => ?_) (fun hc2 => ?_)
 ·try simp only [sk] at hc2
  have hne : ofR rs q.name q.type ≠ [] := List.length_pos_iff.1 (by omega)
  refine W.go ?_
  refine ⟨_, rowL o11 58 (flat encR (ofR rs q.name q.type) p11), (RVs.tmp rfl (RVs.tmp rfl (RVs.tmp rfl RVs.nil))), (by repeat (first | exact List.Sublist.refl _ | exact hSub _ | exact List.sublist_append_left _ _ | exact List.nil_sublist _ | refine List.Sublist.append (List.Sublist.refl _) ?_ | apply List.Sublist.cons_cons | apply List.Sublist.cons | exact List.sublist_append_left _ _ | refine List.Sublist.trans ?_ (List.sublist_append_right _ _))), ?_⟩
  rw [look_2 hc1' hne]; exact ⟨o11, c11, p11, none, 0, [], rfl, nk11, ⟨fun _ => rfl⟩, by simp [rowL]⟩
 try simp only [sk] at hc2
 have hem : ofR rs q.name q.type = [] := List.eq_nil_of_length_eq_zero (by omega)
 refine W.go ?_
 refine W.callN (first := []) (cap := []) rfl (vt rfl) (AV.cons (vt rfl) (AV.cons (vt rfl) (AV.cons (vt rfl) (AV.nil)))) (fun w hu => ref_of rs a cc q.name 5 w (h.upd (L0 := []) hu) hn) ?_; rintro _ _ ⟨o12, c12, p12, rfl, ok12, so12, rfl⟩; have nk12 := ok12.nk (α := RR) (xs := ofR rs q.name 5)
 refine W.go ?_
 refine CW.cond (vt rfl) (fun hc3 => ?_) (fun hc3 => ?_)
 ·try simp only [sk] at hc3
  obtain ⟨r0, rest, hr0⟩ : ∃ r0 rest, ofR rs q.name 5 = r0 :: rest := by (cases hq : ofR rs q.name 5 with | nil => (exfalso; rw [hq] at hc3; simp at hc3) | cons x y => exact ⟨x, y, rfl⟩)
  have hnm0 := of_nm hk hr0
  have hl6 := of_le (rs := rs) (nm := r0.target) (k := q.type)
  rw [hr0] at hl5 nk12 ok12 ⊢
  have hlc : (r0 :: rest).length = rest.length + 1 := rfl
  refine CW.seq ?_
  refine CW.region ?_
  refine W.p O.mv ?_
  refine W.p O.ixA ?_
  refine W.p O.ldsE ?_
  refine W.bs encR [⟨_, _, _, _, _, _, _⟩] rfl (PV.cons (vt rfl) (PV.nil)) rfl rfl rfl (by decide) rfl fun b2 => ?_
  refine W.go ?_
  refine CW.drawH (rowL o12 58 (flat encR (r0 :: rest) p12) ++ (rowL o11 58 (flat encR (ofR rs q.name q.type) p11) ++ [(b1, .cells (encQ q).toArray 29 (0, 0))])) rfl ?_
  refine RH.qa 0 rfl (O.mv) ?_
  refine RH.qa 1 rfl (O.mv) ?_
  refine RH.qa 2 rfl (O.mv) ?_
  refine RH.qa 3 rfl (O.ixA) ?_
  first | refine RH.qa 4 rfl (O.fe) ?_ | refine RH.qa 4 rfl (O.feR) ?_
  refine RH.qa 5 rfl (O.ldE) ?_
  first | refine RH.qa 6 rfl (O.fb) ?_ | refine RH.qa 6 rfl (O.fa) ?_
  refine RH.qa 7 rfl (O.ld) ?_
  refine RH.one (i := 8) (fun _ _ h => h) (by kernel_rfl) rfl ?_
  refine W.callN (first := []) (cap := []) rfl (vt rfl) (AV.cons (vt rfl) (AV.cons (vt rfl) (AV.cons (vt rfl) (AV.nil)))) (fun w hu => ref_of rs a cc r0.target q.type w (h.upd (L0 := []) hu) hn) ?_; rintro _ _ ⟨o13, c13, p13, rfl, ok13, so13, rfl⟩; have nk13 := ok13.nk (α := RR) (xs := ofR rs r0.target q.type)
  refine WL.nilQa ?_
  refine RH.one (i := 9) (fun _ _ h => h) (by kernel_rfl) rfl ?_
  refine W.ap (o := some _) rfl (vt rfl) (vt rfl) (by first | rfl | omega) (by first | rfl | omega) rfl (by first | assumption | exact OwnOk.nil | exact OwnOk.lit | exact ⟨by simp, rfl, Nat.le_refl _, by decide⟩) (by first | omega | (simp; omega)) fun o1 c1 sp1 ok1 ne1 gt1 => ?_
  have nk1 := ok1.nk; have le1 := ok1.2.2.1; try simp only [List.length_append, List.length_cons, List.length_nil] at le1
  refine WL.nilQa ?_
  refine RH.qa 10 rfl (O.as) ?_
  refine RH.qa 11 rfl (O.as) ?_
  refine RH.qa 12 rfl (O.as) ?_
  refine RH.done (by kernel_rfl) (Q.tn ?_)
  refine W.go ?_
  refine ⟨_, rowL o1 58 (flat encR ([r0] ++ ofR rs r0.target q.type) sp1), (RVs.tmp rfl (RVs.tmp rfl (RVs.tmp rfl RVs.nil))), (by repeat (first | exact List.Sublist.refl _ | exact hSub _ | exact List.sublist_append_left _ _ | exact List.nil_sublist _ | refine List.Sublist.append (List.Sublist.refl _) ?_ | apply List.Sublist.cons_cons | apply List.Sublist.cons | exact List.sublist_append_left _ _ | refine List.Sublist.trans ?_ (List.sublist_append_right _ _))), ?_⟩
  rw [look_3 hc1' hem hr0]; exact ⟨o1, c1, sp1, none, 0, [], rfl, nk1, ⟨fun _ => rfl⟩, (List.append_nil _).symm⟩
 try simp only [sk] at hc3
 have hem5 : ofR rs q.name 5 = [] := List.eq_nil_of_length_eq_zero (by omega)
 refine W.go ?_
 refine CW.loopA (X := Int × Int × (List RR) × (Option Nat) × Nat × (List Value)) (fun ⟨i, code, sv, o, ca, sp⟩ => [(0, true, .slice a rs.length cc), (4, true, .pointer (some ⟨b1, 0, none⟩)), (12, true, .int .i64 code), (13, true, .slice (oa o) sv.length ca), (14, true, .int .i64 i)]) (fun ⟨i, code, sv, o, ca, sp⟩ => rowL o 58 (flat encR sv sp) ++ [(b1, .cells (encQ q).toArray 29 (0, 0))]) (fun ⟨i, code, sv, o, ca, sp⟩ => 0 ≤ i ∧ i ≤ rs.length ∧ OwnOk o ca 7 sv.length sp.length ∧ code = (if (rs.take i.toNat).any (fun r => under r.name q.name) = true then 0 else 3) ∧ sv = soaR (rs.take i.toNat)) (fun ⟨i, code, sv, o, ca, sp⟩ => (rs.length - i).toNat) (0, 3, [], none, 0, []) ?_ ?_
 ·exact ⟨by omega, by omega, OwnOk.nil, rfl, rfl⟩
 rintro ⟨i, code, sv, o, ca, sp⟩ hI
 try dsimp only at hI ⊢
 obtain ⟨h0, h1, hok, hcd, hsv⟩ := hI
 have nk := hok.nk
 refine W.go ?_
 refine CW.cond (vt rfl) (fun hc4 => ?_) (fun hc4 => ?_)
 ·try simp only [sk] at hc4
  have hnm := hk _ (mem_at dR h0 hc4)
  have hup := any_upN (f := fun r => under r.name q.name) (d := dR) h0 hc4
  have hso := soa_up h0 hc4
  refine W.go ?_
  refine CW.draw 8 rfl (by kernel_rfl) ?_
  refine WQ.p O.mv ?_
  refine WQ.p O.mv ?_
  refine WQ.p O.ixA ?_
  first | refine WQ.p O.fe ?_ | refine WQ.p O.feR ?_
  refine WQ.p O.ldE ?_
  first | refine WQ.p O.fb ?_ | refine WQ.p O.fa ?_
  refine WQ.p O.ld ?_
  refine WQ.q (O.call ⟨rfl, rfl⟩ (AV.cons (vt rfl) (AV.cons (vt rfl) (AV.nil))) (fun _ w hw => ref_Under _ _ w (by omega) (by first | omega | decide))) ?_
  refine WQ.nil ?_
  refine WL.nil (Q.tn ?_)
  refine CW.cond (vt rfl) (fun hc5 => ?_) (fun hc5 => ?_)
  ·try simp only [sk] at hc5
   refine CW.region ?_
   refine W.p O.as ?_
   refine WL.nil (Q.tn ?_)
   refine CW.seq ?_
   refine CW.region ?_
   refine W.p O.mv ?_
   refine W.p O.mv ?_
   refine W.p O.ixA ?_
   first | refine W.p O.fe ?_ | refine W.p O.feR ?_
   refine W.go ?_
   refine CW.cond (vt rfl) (fun hc6 => ?_) (fun hc6 => ?_)
   ·try simp only [sk] at hc6
    have hs0 : sv = [] := List.eq_nil_of_length_eq_zero (by omega)
    have hsv2 : soaR (rs.take (i + 1).toNat) = sv ++ [rs.getD i.toNat dR] := by rw [hso, ← hsv, if_pos hs0, if_pos hc6.1, hs0]; rfl
    refine CW.region ?_
    refine W.p O.mv ?_
    refine W.p O.mv ?_
    refine W.p O.mv ?_
    refine W.p O.ixA ?_
    refine W.p O.ldsE ?_
    refine W.bs encR [⟨_, _, _, _, _, _, _⟩] rfl (PV.cons (vt rfl) (PV.nil)) rfl rfl rfl (by decide) rfl fun b3 => ?_
    refine W.ap rfl (vt rfl) (vt rfl) (by first | rfl | omega) (by first | rfl | omega) rfl (by first | assumption | exact OwnOk.nil | exact OwnOk.lit) (by first | omega | (simp; omega)) fun o2 c2 sp2 ok2 ne2 gt2 => ?_
    have nk2 := ok2.nk; have le2 := ok2.2.2.1; try simp only [List.length_append, List.length_cons, List.length_nil] at le2
    refine W.go ?_
    refine nextA (_, _, sv ++ [rs.getD i.toNat dR], _, _, _) ?_ ?_
    ·try dsimp only
     exact ⟨by omega, by omega, by assumption, by rw [hup, hc5, Bool.or_true, if_pos rfl], hsv2.symm⟩
    ·try dsimp only
     omega
   try simp only [sk] at hc6
   have hsv2 : soaR (rs.take (i + 1).toNat) = sv := by rw [hso, ← hsv]; split; (rename_i hq; rw [if_neg (by rcases hc6 with x | x; (exact x); (rw [hq] at x; simp at x))]; exact hq.symm); rfl
   refine W.go ?_
   refine nextA (_, _, sv, _, _, _) ?_ ?_
   ·try dsimp only
    exact ⟨by omega, by omega, hok, by rw [hup, hc5, Bool.or_true, if_pos rfl], hsv2.symm⟩
   ·try dsimp only
    omega
  try simp only [sk] at hc5
  refine CW.skip (Q.tn ?_)
  refine CW.seq ?_
  refine CW.region ?_
  refine W.p O.mv ?_
  refine W.p O.mv ?_
  refine W.p O.ixA ?_
  first | refine W.p O.fe ?_ | refine W.p O.feR ?_
  refine W.go ?_
  refine CW.cond (vt rfl) (fun hc7 => ?_) (fun hc7 => ?_)
  ·try simp only [sk] at hc7
   have hs0 : sv = [] := List.eq_nil_of_length_eq_zero (by omega)
   have hsv2 : soaR (rs.take (i + 1).toNat) = sv ++ [rs.getD i.toNat dR] := by rw [hso, ← hsv, if_pos hs0, if_pos hc7.1, hs0]; rfl
   refine CW.region ?_
   refine W.p O.mv ?_
   refine W.p O.mv ?_
   refine W.p O.mv ?_
   refine W.p O.ixA ?_
   refine W.p O.ldsE ?_
   refine W.bs encR [⟨_, _, _, _, _, _, _⟩] rfl (PV.cons (vt rfl) (PV.nil)) rfl rfl rfl (by decide) rfl fun b4 => ?_
   refine W.ap rfl (vt rfl) (vt rfl) (by first | rfl | omega) (by first | rfl | omega) rfl (by first | assumption | exact OwnOk.nil | exact OwnOk.lit) (by first | omega | (simp; omega)) fun o3 c3 sp3 ok3 ne3 gt3 => ?_
   have nk3 := ok3.nk; have le3 := ok3.2.2.1; try simp only [List.length_append, List.length_cons, List.length_nil] at le3
   refine W.go ?_
   refine nextA (_, _, sv ++ [rs.getD i.toNat dR], _, _, _) ?_ ?_
   ·try dsimp only
    exact ⟨by omega, by omega, by assumption, by rw [hup, hc5, Bool.or_false]; exact hcd, hsv2.symm⟩
   ·try dsimp only
    omega
  try simp only [sk] at hc7
  have hsv2 : soaR (rs.take (i + 1).toNat) = sv := by rw [hso, ← hsv]; split; (rename_i hq; rw [if_neg (by rcases hc7 with x | x; (exact x); (rw [hq] at x; simp at x))]; exact hq.symm); rfl
  refine W.go ?_
  refine nextA (_, _, sv, _, _, _) ?_ ?_
  ·try dsimp only
   exact ⟨by omega, by omega, hok, by rw [hup, hc5, Bool.or_false]; exact hcd, hsv2.symm⟩
  ·try dsimp only
   omega
 try simp only [sk] at hc4
 refine W.go ?_
 refine ⟨_, rowL o 58 (flat encR sv sp), (RVs.tmp rfl (RVs.tmp rfl (RVs.tmp rfl RVs.nil))), (by repeat (first | exact List.Sublist.refl _ | exact hSub _ | exact List.sublist_append_left _ _ | exact List.nil_sublist _ | refine List.Sublist.append (List.Sublist.refl _) ?_ | apply List.Sublist.cons_cons | apply List.Sublist.cons | exact List.sublist_append_left _ _ | refine List.Sublist.trans ?_ (List.sublist_append_right _ _))), ?_⟩
 rw [List.take_of_length_le (by omega)] at hcd hsv
 rw [look_4 hc1' hem hem5, ← hcd, ← hsv]; exact ⟨none, 0, [], o, ca, sp, rfl, ⟨fun _ => rfl⟩, nk, rfl⟩
end Go.Proofs.YtfmdaijkgjkmpaaGreatDoor

set_option linter.unusedVariables false
set_option linter.unusedSimpArgs false
namespace Go.Proofs.YtfmdaijkgjkmpaaGreatDoor
open Go Go.RowKit
/-- a message that is told, as it lies -/
def RpR (x : Dn) (q : Sl) (v : Value) (L' : Heap) : Prop := ∃ o1 c1 p1 o2 c2 p2, v = vDn x q (oa o1, c1) (oa o2, c2) nS ∧ NilOk o1 x.an ∧ NilOk o2 x.se ∧ L' = rowL o1 58 (flat encR x.an p1) ++ rowL o2 58 (flat encR x.se p2)
theorem reply_look {m : Dn} {rs : List RR} {z : List UInt8} (h1 : m.op = 0) (h2 : m.qs.length = 1) : replyD m rs z = ⟨m.id, true, m.op, !decide ((look rs (m.qs.getD 0 dQ) z).1 = 5), false, m.recu, (look rs (m.qs.getD 0 dQ) z).1, m.qs, (look rs (m.qs.getD 0 dQ) z).2.1, (look rs (m.qs.getD 0 dQ) z).2.2, [], if 0 < m.size then 512 else 0⟩ := by
 have e : m.qs.headD dQ = m.qs.getD 0 dQ := by cases m.qs <;> rfl
 unfold replyD; dsimp only; rw [if_neg (by omega), if_neg (by omega), e]
set_option maxRecDepth 100000 in
theorem an_reply (m : Dn) (p : Addr) (q a1 s1 d1 : Sl) (rs : List RR) (a : Option Addr) (cc : Nat) (z : List UInt8) (w : World) (hm : In w (some p) (encDn m q a1 s1 d1)) (hq : In w q.1 (m.qs.flatMap encQ)) (h : In w a (rs.flatMap encR)) (hn : rs.length ≤ 1048576) (hk : RsNm rs) (h3 : z.length ≤ 1048576) (hql : ∀ x ∈ m.qs, x.name.length ≤ 1048576) :
  Fn Tryz.prog 36 [.pointer (some p), .slice a rs.length cc, .string (S z)] w [] (RpR (replyD m rs z) q) := by
 have c0 : ∀ {L : Heap}, Cell w [] L (p.add 0) (.int .i64 m.id) := fun {L} => cellQ hm rfl
 have c2 : ∀ {L : Heap}, Cell w [] L (p.add 2) (.int .i64 m.op) := fun {L} => cellQ hm rfl
 have c5 : ∀ {L : Heap}, Cell w [] L (p.add 5) (.bool m.recu) := fun {L} => cellQ hm rfl
 have c7 : ∀ {L : Heap}, Cell w [] L (p.add 7) (.slice q.1 m.qs.length q.2) := fun {L} => cellQ hm rfl
 have c11 : ∀ {L : Heap}, Cell w [] L (p.add 11) (.int .i64 m.size) := fun {L} => cellQ hm rfl
 have rowq := Row.ofE (dv := dQ) hq
 refine Fn.enter Tryz.func36 rfl rfl rfl rfl (Holds.nil w) ?_
 refine W.go ?_
 refine W.al rfl rfl fun b1 => ?_
 refine W.go ?_
 refine CW.drawHL rfl ?_
 refine RH.qa 0 rfl (O.mv) ?_
 refine RH.qa 1 rfl (O.nc) ?_
 first | refine RH.qa 2 rfl (O.fb) ?_ | refine RH.qa 2 rfl (O.fa) ?_
 first | refine RH.qa 3 rfl (O.ld) ?_ | refine RH.qa 3 rfl (O.ldC) ?_
 refine RH.qa 4 rfl (O.mv) ?_
 refine RH.qa 5 rfl (O.nc) ?_
 first | refine RH.qa 6 rfl (O.fb) ?_ | refine RH.qa 6 rfl (O.fa) ?_
 first | refine RH.qa 7 rfl (O.ld) ?_ | refine RH.qa 7 rfl (O.ldC) ?_
 refine RH.qa 8 rfl (O.mv) ?_
 refine RH.qa 9 rfl (O.nc) ?_
 first | refine RH.qa 10 rfl (O.fb) ?_ | refine RH.qa 10 rfl (O.fa) ?_
 first | refine RH.qa 11 rfl (O.ld) ?_ | refine RH.qa 11 rfl (O.ldC) ?_
 refine RH.qa 12 rfl (O.mv) ?_
 refine RH.qa 13 rfl (O.nc) ?_
 first | refine RH.qa 14 rfl (O.fb) ?_ | refine RH.qa 14 rfl (O.fa) ?_
 first | refine RH.qa 15 rfl (O.ld) ?_ | refine RH.qa 15 rfl (O.ldC) ?_
 refine RH.qa 16 rfl (O.bd (hv := PV.cons (vt rfl) (PV.cons (vt rfl) (PV.cons (vt rfl) (PV.cons (vt rfl) (PV.cons (vt rfl) (PV.nil))))))) ?_
 refine RH.one (i := 17) (fun _ _ h => h) (by kernel_rfl) rfl ?_
 refine W.al rfl rfl fun b2 => ?_
 refine WL.nilQa ?_
 refine RH.one (i := 18) (fun _ _ h => h) (by kernel_rfl) rfl ?_
 refine W.st (vt rfl) (vt rfl) rfl ?_
 refine WL.nilQa ?_
 refine RH.done (by kernel_rfl) (Q.tn ?_)
 refine W.go ?_
 refine CW.cond (vt rfl) (fun hc1 => ?_) (fun hc1 => ?_)
 ·try simp only [sk] at hc1
  refine W.go ?_
  first | refine W.st (vt rfl) (vt rfl) rfl ?_ | refine W.st (u := .int _ _) (vt rfl) (vt rfl) rfl ?_
  refine W.go ?_
  refine CW.cond (vt rfl) (fun hc2 => ?_) (fun hc2 => ?_)
  ·try simp only [sk] at hc2
   refine W.go ?_
   first | refine W.st (vt rfl) (vt rfl) rfl ?_ | refine W.st (u := .int _ _) (vt rfl) (vt rfl) rfl ?_
   refine W.go ?_
   refine W.st (vt rfl) (vt rfl) rfl ?_
   refine W.go ?_
   refine ⟨_, [], (RVs.cell rfl RVs.nil), List.nil_sublist _, ?_⟩
   have e : replyD m rs z = ⟨m.id, true, m.op, false, false, m.recu, 4, m.qs, [], [], [], 512⟩ := by unfold replyD; dsimp only; rw [if_pos hc1, if_pos hc2]
   rw [RpR, e]; exact ⟨none, 0, [], none, 0, [], rfl, ⟨fun _ => rfl⟩, ⟨fun _ => rfl⟩, rfl⟩
  try simp only [sk] at hc2
  refine W.go ?_
  refine W.st (vt rfl) (vt rfl) rfl ?_
  refine W.go ?_
  refine ⟨_, [], (RVs.cell rfl RVs.nil), List.nil_sublist _, ?_⟩
  have e : replyD m rs z = ⟨m.id, true, m.op, false, false, m.recu, 4, m.qs, [], [], [], 0⟩ := by unfold replyD; dsimp only; rw [if_pos hc1, if_neg hc2]
  rw [RpR, e]; exact ⟨none, 0, [], none, 0, [], rfl, ⟨fun _ => rfl⟩, ⟨fun _ => rfl⟩, rfl⟩
 try simp only [sk] at hc1
 refine W.go ?_
 refine CW.cond (vt rfl) (fun hc3 => ?_) (fun hc3 => ?_)
 ·try simp only [sk] at hc3
  refine W.go ?_
  first | refine W.st (vt rfl) (vt rfl) rfl ?_ | refine W.st (u := .int _ _) (vt rfl) (vt rfl) rfl ?_
  refine W.go ?_
  refine CW.cond (vt rfl) (fun hc4 => ?_) (fun hc4 => ?_)
  ·try simp only [sk] at hc4
   refine W.go ?_
   first | refine W.st (vt rfl) (vt rfl) rfl ?_ | refine W.st (u := .int _ _) (vt rfl) (vt rfl) rfl ?_
   refine W.go ?_
   refine W.st (vt rfl) (vt rfl) rfl ?_
   refine W.go ?_
   refine ⟨_, [], (RVs.cell rfl RVs.nil), List.nil_sublist _, ?_⟩
   have e : replyD m rs z = ⟨m.id, true, m.op, false, false, m.recu, 1, m.qs, [], [], [], 512⟩ := by unfold replyD; dsimp only; rw [if_neg (by omega), if_pos (by omega), if_pos hc4]
   rw [RpR, e]; exact ⟨none, 0, [], none, 0, [], rfl, ⟨fun _ => rfl⟩, ⟨fun _ => rfl⟩, rfl⟩
  try simp only [sk] at hc4
  refine W.go ?_
  refine W.st (vt rfl) (vt rfl) rfl ?_
  refine W.go ?_
  refine ⟨_, [], (RVs.cell rfl RVs.nil), List.nil_sublist _, ?_⟩
  have e : replyD m rs z = ⟨m.id, true, m.op, false, false, m.recu, 1, m.qs, [], [], [], 0⟩ := by unfold replyD; dsimp only; rw [if_neg (by omega), if_pos (by omega), if_neg hc4]
  rw [RpR, e]; exact ⟨none, 0, [], none, 0, [], rfl, ⟨fun _ => rfl⟩, ⟨fun _ => rfl⟩, rfl⟩
 try simp only [sk] at hc3
 have hqn : (m.qs.getD 0 dQ).name.length ≤ 1048576 := hql _ (mem_at dQ (i := 0) (by omega) (by omega))
 refine W.go ?_
 refine W.callN (first := []) (cap := []) rfl (vt rfl) (AV.cons (vt rfl) (AV.cons (vt rfl) (AV.cons (vt rfl) (AV.nil)))) (fun w hu => an_Look rs a cc (m.qs.getD 0 dQ) z w (h.upd (L0 := []) hu) hn hk hqn h3) ?_; rintro _ _ ⟨o51, c51, p51, o52, c52, p52, rfl, nk51, nk52, rfl⟩
 refine W.go ?_
 first | refine W.st (vt rfl) (vt rfl) rfl ?_ | refine W.st (u := .int _ _) (vt rfl) (vt rfl) rfl ?_
 refine W.go ?_
 first | refine W.st (vt rfl) (vt rfl) rfl ?_ | refine W.st (u := .slice _ _ _) (vt rfl) (vt rfl) rfl ?_
 refine W.go ?_
 first | refine W.st (vt rfl) (vt rfl) rfl ?_ | refine W.st (u := .slice _ _ _) (vt rfl) (vt rfl) rfl ?_
 refine W.go ?_
 refine W.st (vt rfl) (vt rfl) rfl ?_
 refine W.go ?_
 refine CW.cond (vt rfl) (fun hc5 => ?_) (fun hc5 => ?_)
 ·try simp only [sk] at hc5
  refine W.go ?_
  first | refine W.st (vt rfl) (vt rfl) rfl ?_ | refine W.st (u := .int _ _) (vt rfl) (vt rfl) rfl ?_
  refine W.go ?_
  refine W.st (vt rfl) (vt rfl) rfl ?_
  refine W.go ?_
  refine ⟨_, rowL o51 58 (flat encR (look rs (m.qs.getD 0 dQ) z).2.1 p51) ++ rowL o52 58 (flat encR (look rs (m.qs.getD 0 dQ) z).2.2 p52), (RVs.cell rfl RVs.nil), (by repeat (first | exact List.Sublist.refl _ | exact hSub _ | exact List.sublist_append_left _ _ | exact List.nil_sublist _ | refine List.Sublist.append (List.Sublist.refl _) ?_ | apply List.Sublist.cons_cons | apply List.Sublist.cons | exact List.sublist_append_left _ _ | refine List.Sublist.trans ?_ (List.sublist_append_right _ _))), ?_⟩
  have e := reply_look (rs := rs) (z := z) (show m.op = 0 by omega) (show m.qs.length = 1 by omega)
  rw [if_pos hc5] at e
  rw [RpR, e]; exact ⟨o51, c51, p51, o52, c52, p52, rfl, nk51, nk52, rfl⟩
 try simp only [sk] at hc5
 refine W.go ?_
 refine W.st (vt rfl) (vt rfl) rfl ?_
 refine W.go ?_
 refine ⟨_, rowL o51 58 (flat encR (look rs (m.qs.getD 0 dQ) z).2.1 p51) ++ rowL o52 58 (flat encR (look rs (m.qs.getD 0 dQ) z).2.2 p52), (RVs.cell rfl RVs.nil), (by repeat (first | exact List.Sublist.refl _ | exact hSub _ | exact List.sublist_append_left _ _ | exact List.nil_sublist _ | refine List.Sublist.append (List.Sublist.refl _) ?_ | apply List.Sublist.cons_cons | apply List.Sublist.cons | exact List.sublist_append_left _ _ | refine List.Sublist.trans ?_ (List.sublist_append_right _ _))), ?_⟩
 have e := reply_look (rs := rs) (z := z) (show m.op = 0 by omega) (show m.qs.length = 1 by omega)
 rw [if_neg hc5] at e
 rw [RpR, e]; exact ⟨o51, c51, p51, o52, c52, p52, rfl, nk51, nk52, rfl⟩
end Go.Proofs.YtfmdaijkgjkmpaaGreatDoor
