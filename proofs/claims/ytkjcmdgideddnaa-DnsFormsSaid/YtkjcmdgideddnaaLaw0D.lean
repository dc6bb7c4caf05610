/- Messages compared, copied, written over. Conditions: the rows are not longer than a million. -/
import Derived.Test.YtkjcmdgideddnaaLaw0R
import Derived.Test.YtkjcmdgideddnaaDnC
set_option linter.unusedVariables false
set_option linter.unusedSimpArgs false
namespace Go.Proofs.Ytkjcmdgideddnaa
open Go Go.RowKit
instance (priority := low) Cut.appl {L L' M : Heap} {o : Option Nat} {U : TypeId} {cs : List Value} [h : Cut L o U cs L'] : Cut (L ++ M) o U cs (L' ++ M) := ⟨by
  have := List.Perm.append_right M h.h
  rwa [List.append_assoc] at this⟩
structure DnLn (m : Dn) : Prop where
  hq : m.qs.length ≤ 1048576
  ha : m.an.length ≤ 1048576
  hs : m.se.length ≤ 1048576
  hd : m.ad.length ≤ 1048576
theorem DnSz.ln {m : Dn} {B : Nat} (h : DnSz m B) : DnLn m := ⟨h.hq.1, h.ha.1, h.hs.1, h.hd.1⟩
theorem DnSz.le {m : Dn} {B B' : Nat} (h : DnSz m B) (hb : B ≤ B') : DnSz m B' :=
  ⟨⟨h.hq.1, fun x hx => Nat.le_trans (h.hq.2 x hx) hb⟩, ⟨h.ha.1, fun x hx => ⟨Nat.le_trans (h.ha.2 x hx).1 hb, Nat.le_trans (h.ha.2 x hx).2 hb⟩⟩, ⟨h.hs.1, fun x hx => ⟨Nat.le_trans (h.hs.2 x hx).1 hb, Nat.le_trans (h.hs.2 x hx).2 hb⟩⟩, ⟨h.hd.1, fun x hx => ⟨Nat.le_trans (h.hd.2 x hx).1 hb, Nat.le_trans (h.hd.2 x hx).2 hb⟩⟩⟩
theorem may_ln {m : Dn} (h : dnMay m = true) : DnLn m := by
  obtain ⟨a, b, c, _, _, _, e, _⟩ := may_d h
  exact ⟨by omega, by omega, by omega, by omega⟩
theorem dnGet_ln (s : List UInt8) : DnLn (dnGet s).1 := by
  unfold dnGet
  split
  · exact ⟨by decide, by decide, by decide, by decide⟩
  · split
    · rename_i h; exact may_ln h.2
    · exact ⟨by decide, by decide, by decide, by decide⟩
set_option maxRecDepth 100000 in
theorem sameDns (m n : Dn) (q a s d q' a' s' d' : Sl) (w : World) (h : DnIn w m q a s d) (h' : DnIn w n q' a' s' d') (hz : DnLn m) : Fn Try.prog 83 [vDn m q a s d, vDn n q' a' s' d'] w [] fun v L' => v = .bool (decide (m = n)) ∧ L' = [] := by
  refine Fn.enter Try.func83 rfl rfl rfl rfl (Holds.nil w) ?_
  refine CW.seq ?_
  refine CW.region ?_
  refine W.bx rfl (vt rfl) rfl fun b1 => ?_
  refine W.bx rfl (vt rfl) rfl fun b2 => ?_
  refine W.p O.as ?_
  refine WL.nil (Q.tn ?_)
  refine CW.seq ?_
  refine CW.region ?_
  first | refine W.p O.fb ?_ | refine W.p O.fa ?_
  refine W.p O.ld ?_
  first | refine W.p O.fb ?_ | refine W.p O.fa ?_
  refine W.p O.ld ?_
  refine W.p O.eqI ?_
  refine W.p O.mv ?_
  first | refine W.p O.fb ?_ | refine W.p O.fa ?_
  refine W.p O.ld ?_
  first | refine W.p O.fb ?_ | refine W.p O.fa ?_
  refine W.p O.ld ?_
  refine W.p O.eqB ?_
  refine W.p O.pkB ?_
  refine W.p O.mv ?_
  first | refine W.p O.fb ?_ | refine W.p O.fa ?_
  refine W.p O.ld ?_
  first | refine W.p O.fb ?_ | refine W.p O.fa ?_
  refine W.p O.ld ?_
  refine W.p O.eqI ?_
  refine W.p O.pkB ?_
  refine W.p O.mv ?_
  first | refine W.p O.fb ?_ | refine W.p O.fa ?_
  refine W.p O.ld ?_
  first | refine W.p O.fb ?_ | refine W.p O.fa ?_
  refine W.p O.ld ?_
  refine W.p O.eqB ?_
  refine W.p O.pkB ?_
  refine W.p O.mv ?_
  first | refine W.p O.fb ?_ | refine W.p O.fa ?_
  refine W.p O.ld ?_
  first | refine W.p O.fb ?_ | refine W.p O.fa ?_
  refine W.p O.ld ?_
  refine W.p O.eqB ?_
  refine W.p O.pkB ?_
  refine W.p O.mv ?_
  first | refine W.p O.fb ?_ | refine W.p O.fa ?_
  refine W.p O.ld ?_
  first | refine W.p O.fb ?_ | refine W.p O.fa ?_
  refine W.p O.ld ?_
  refine W.p O.eqB ?_
  refine W.p O.pkB ?_
  refine W.p O.mv ?_
  first | refine W.p O.fb ?_ | refine W.p O.fa ?_
  refine W.p O.ld ?_
  first | refine W.p O.fb ?_ | refine W.p O.fa ?_
  refine W.p O.ld ?_
  refine W.p O.eqI ?_
  refine W.p O.pkB ?_
  refine W.p O.mv ?_
  first | refine W.p O.fb ?_ | refine W.p O.fa ?_
  refine W.p O.ld ?_
  first | refine W.p O.fb ?_ | refine W.p O.fa ?_
  refine W.p O.ld ?_
  refine W.p O.eqI ?_
  refine W.p O.pkB ?_
  refine W.p O.mv ?_
  first | refine W.p O.fb ?_ | refine W.p O.fa ?_
  refine W.p O.ld ?_
  first | refine W.p O.fb ?_ | refine W.p O.fa ?_
  refine W.p O.ld ?_
  refine W.q (O.call ⟨rfl, rfl⟩ (AV.cons (vs rfl) (AV.cons (vs rfl) (AV.nil))) (fun _ w hw => sameQuestions m.qs n.qs _ _ _ _ w (h.hq.upd (L0 := []) hw) (h'.hq.upd (L0 := []) hw) (by have := hz.hq; omega))) ?_
  refine W.p O.pkB ?_
  refine W.p O.mv ?_
  first | refine W.p O.fb ?_ | refine W.p O.fa ?_
  refine W.p O.ld ?_
  first | refine W.p O.fb ?_ | refine W.p O.fa ?_
  refine W.p O.ld ?_
  refine W.q (O.call ⟨rfl, rfl⟩ (AV.cons (vs rfl) (AV.cons (vs rfl) (AV.nil))) (fun _ w hw => sameRRs m.an n.an _ _ _ _ w (h.ha.upd (L0 := []) hw) (h'.ha.upd (L0 := []) hw) (by have := hz.ha; omega))) ?_
  refine W.p O.pkB ?_
  refine W.p O.mv ?_
  first | refine W.p O.fb ?_ | refine W.p O.fa ?_
  refine W.p O.ld ?_
  first | refine W.p O.fb ?_ | refine W.p O.fa ?_
  refine W.p O.ld ?_
  refine W.q (O.call ⟨rfl, rfl⟩ (AV.cons (vs rfl) (AV.cons (vs rfl) (AV.nil))) (fun _ w hw => sameRRs m.se n.se _ _ _ _ w (h.hs.upd (L0 := []) hw) (h'.hs.upd (L0 := []) hw) (by have := hz.hs; omega))) ?_
  refine W.p O.pkB ?_
  refine W.p O.mv ?_
  first | refine W.p O.fb ?_ | refine W.p O.fa ?_
  refine W.p O.ld ?_
  first | refine W.p O.fb ?_ | refine W.p O.fa ?_
  refine W.p O.ld ?_
  refine W.q (O.call ⟨rfl, rfl⟩ (AV.cons (vs rfl) (AV.cons (vs rfl) (AV.nil))) (fun _ w hw => sameRRs m.ad n.ad _ _ _ _ w (h.hd.upd (L0 := []) hw) (h'.hd.upd (L0 := []) hw) (by have := hz.hd; omega))) ?_
  refine W.p O.pkB ?_
  refine W.p O.as ?_
  refine WL.nil (Q.tn ?_)
  refine CW.ret ?_
  refine ⟨_, [], (RVs.tmp rfl RVs.nil), List.nil_sublist _, ?_⟩
  refine ⟨congrArg Value.bool ?_, rfl⟩
  clear h h' hz
  obtain ⟨a1, a2, a3, a4, a5, a6, a7, a8, a9, a10, a11, a12⟩ := m
  obtain ⟨b1, b2, b3, b4, b5, b6, b7, b8, b9, b10, b11, b12⟩ := n
  rw [Bool.eq_iff_iff]
  simp [and_assoc]
  try grind
set_option maxRecDepth 100000 in
theorem copyDns (m : Dn) (q a s d : Sl) (w : World) (h : DnIn w m q a s d) (hz : DnLn m) : Fn Try.prog 78 [vDn m q a s d] w [] fun v L' => ∃ o1 c1 p1 o2 c2 p2 o3 c3 p3 o4 c4 p4, v = vDn m (oa o1, c1) (oa o2, c2) (oa o3, c3) (oa o4, c4) ∧ OwnOk o1 c1 2 m.qs.length (List.length p1) ∧ OwnOk o2 c2 7 m.an.length (List.length p2) ∧ OwnOk o3 c3 7 m.se.length (List.length p3) ∧ OwnOk o4 c4 7 m.ad.length (List.length p4) ∧ L' = rowL o4 96 (flat encR m.ad p4) ++ (rowL o3 96 (flat encR m.se p3) ++ (rowL o2 96 (flat encR m.an p2) ++ rowL o1 126 (flat encQ m.qs p1))) := by
  have rowq := Row.ofE (dv := dQ) h.hq
  have rowa := Row.ofE (dv := dR) h.ha
  have rows := Row.ofE (dv := dR) h.hs
  have rowd := Row.ofE (dv := dR) h.hd
  obtain ⟨hz1, hz2, hz3, hz4⟩ := hz
  refine Fn.enter Try.func78 rfl rfl rfl rfl (Holds.nil w) ?_
  refine CW.seq ?_
  refine CW.region ?_
  refine W.bx rfl (vt rfl) rfl fun b1 => ?_
  refine W.al rfl rfl fun b2 => ?_
  refine WL.nil (Q.tn ?_)
  refine CW.seq ?_
  refine CW.region ?_
  refine W.bs0 encQ rfl fun b3 => ?_
  first | refine W.p O.fb ?_ | refine W.p O.fa ?_
  refine W.p O.ld ?_
  refine W.ap rfl (vt rfl) (vt rfl) (by first | rfl | omega) (by first | rfl | omega) rfl (by first | assumption | exact OwnOk.nil | exact OwnOk.lit) (by first | omega | (simp; omega)) fun o1 c1 sp1 ok1 ne1 gt1 => ?_
  have nk1 := ok1.nk; have le1 := ok1.2.2.1; try simp only [List.length_append, List.length_cons, List.length_nil] at le1
  first | refine W.p O.fb ?_ | refine W.p O.fa ?_
  first | refine W.st (vt rfl) (vt rfl) rfl ?_ | refine W.st (u := .slice _ _ _) (vt rfl) (vt rfl) rfl ?_
  refine WL.nil (Q.tn ?_)
  refine CW.seq ?_
  refine CW.region ?_
  refine W.bs0 encR rfl fun b4 => ?_
  first | refine W.p O.fb ?_ | refine W.p O.fa ?_
  refine W.p O.ld ?_
  refine W.ap rfl (vt rfl) (vt rfl) (by first | rfl | omega) (by first | rfl | omega) rfl (by first | assumption | exact OwnOk.nil | exact OwnOk.lit) (by first | omega | (simp; omega)) fun o2 c2 sp2 ok2 ne2 gt2 => ?_
  have nk2 := ok2.nk; have le2 := ok2.2.2.1; try simp only [List.length_append, List.length_cons, List.length_nil] at le2
  first | refine W.p O.fb ?_ | refine W.p O.fa ?_
  first | refine W.st (vt rfl) (vt rfl) rfl ?_ | refine W.st (u := .slice _ _ _) (vt rfl) (vt rfl) rfl ?_
  refine WL.nil (Q.tn ?_)
  refine CW.seq ?_
  refine CW.region ?_
  refine W.bs0 encR rfl fun b5 => ?_
  first | refine W.p O.fb ?_ | refine W.p O.fa ?_
  refine W.p O.ld ?_
  refine W.ap rfl (vt rfl) (vt rfl) (by first | rfl | omega) (by first | rfl | omega) rfl (by first | assumption | exact OwnOk.nil | exact OwnOk.lit) (by first | omega | (simp; omega)) fun o3 c3 sp3 ok3 ne3 gt3 => ?_
  have nk3 := ok3.nk; have le3 := ok3.2.2.1; try simp only [List.length_append, List.length_cons, List.length_nil] at le3
  first | refine W.p O.fb ?_ | refine W.p O.fa ?_
  first | refine W.st (vt rfl) (vt rfl) rfl ?_ | refine W.st (u := .slice _ _ _) (vt rfl) (vt rfl) rfl ?_
  refine WL.nil (Q.tn ?_)
  refine CW.seq ?_
  refine CW.region ?_
  refine W.bs0 encR rfl fun b6 => ?_
  first | refine W.p O.fb ?_ | refine W.p O.fa ?_
  refine W.p O.ld ?_
  refine W.ap rfl (vt rfl) (vt rfl) (by first | rfl | omega) (by first | rfl | omega) rfl (by first | assumption | exact OwnOk.nil | exact OwnOk.lit) (by first | omega | (simp; omega)) fun o4 c4 sp4 ok4 ne4 gt4 => ?_
  have nk4 := ok4.nk; have le4 := ok4.2.2.1; try simp only [List.length_append, List.length_cons, List.length_nil] at le4
  first | refine W.p O.fb ?_ | refine W.p O.fa ?_
  first | refine W.st (vt rfl) (vt rfl) rfl ?_ | refine W.st (u := .slice _ _ _) (vt rfl) (vt rfl) rfl ?_
  refine WL.nil (Q.tn ?_)
  refine CW.seq ?_
  refine CW.region ?_
  refine W.p O.lds ?_
  refine W.st (vt rfl) (vt rfl) rfl ?_
  refine WL.nil (Q.tn ?_)
  refine CW.ret ?_
  refine ⟨_, rowL o4 96 (flat encR m.ad sp4) ++ (rowL o3 96 (flat encR m.se sp3) ++ (rowL o2 96 (flat encR m.an sp2) ++ rowL o1 126 (flat encQ m.qs sp1))), (RVs.cell rfl RVs.nil), (by repeat (first | exact List.Sublist.refl _ | exact hSub _ | exact List.sublist_append_left _ _ | exact List.nil_sublist _ | refine List.Sublist.append (List.Sublist.refl _) ?_ | apply List.Sublist.cons_cons | apply List.Sublist.cons | exact List.sublist_append_left _ _ | refine List.Sublist.trans ?_ (List.sublist_append_right _ _))), ?_⟩
  exact ⟨o1, c1, sp1, o2, c2, sp2, o3, c3, sp3, o4, c4, sp4, rfl, ok1, ok2, ok3, ok4, rfl⟩
set_option maxRecDepth 100000 in
theorem spoilDns (m : Dn) (o1 o2 o3 o4 : Option Nat) (c1 c2 c3 c4 : Nat) (p1 p2 p3 p4 : List Value) (w : World) (ok1 : OwnOk o1 c1 2 m.qs.length p1.length) (ok2 : OwnOk o2 c2 7 m.an.length p2.length) (ok3 : OwnOk o3 c3 7 m.se.length p3.length) (ok4 : OwnOk o4 c4 7 m.ad.length p4.length) (hL : Holds (rowL o4 96 (flat encR m.ad p4) ++ (rowL o3 96 (flat encR m.se p3) ++ (rowL o2 96 (flat encR m.an p2) ++ rowL o1 126 (flat encQ m.qs p1)))) w) (hz : DnLn m) :
    Fn Try.prog 86 [vDn m (oa o1, c1) (oa o2, c2) (oa o3, c3) (oa o4, c4)] w (rowL o4 96 (flat encR m.ad p4) ++ (rowL o3 96 (flat encR m.se p3) ++ (rowL o2 96 (flat encR m.an p2) ++ rowL o1 126 (flat encQ m.qs p1)))) fun v L' => L' = [] := by
  obtain ⟨hz1, hz2, hz3, hz4⟩ := hz
  refine Fn.enter Try.func86 rfl rfl rfl rfl hL ?_
  refine CW.seq ?_
  refine CW.region ?_
  refine W.bx rfl (vt rfl) rfl fun b1 => ?_
  refine WL.nil (Q.tn ?_)
  refine CW.seq ?_
  refine CW.region ?_
  first | refine W.p O.fb ?_ | refine W.p O.fa ?_
  refine W.p O.ld ?_
  refine W.callS (first := []) (cap := []) (rowL o1 126 (flat encQ m.qs p1)) rfl (vt rfl) (AV.cons (vt rfl) (AV.nil)) (fun w hu hh => spoilQuestions m.qs o1 c1 p1 w ok1 hh (by omega)) ?_; rintro _ _ ⟨y1, hy1, rfl⟩
  refine WL.nil (Q.tn ?_)
  refine CW.seq ?_
  refine CW.region ?_
  first | refine W.p O.fb ?_ | refine W.p O.fa ?_
  refine W.p O.ld ?_
  refine W.callS (first := []) (cap := []) (rowL o2 96 (flat encR m.an p2)) rfl (vt rfl) (AV.cons (vt rfl) (AV.nil)) (fun w hu hh => spoilRRs m.an o2 c2 p2 w ok2 hh (by omega)) ?_; rintro _ _ ⟨y2, hy2, rfl⟩
  refine WL.nil (Q.tn ?_)
  refine CW.seq ?_
  refine CW.region ?_
  first | refine W.p O.fb ?_ | refine W.p O.fa ?_
  refine W.p O.ld ?_
  refine W.callS (first := []) (cap := []) (rowL o3 96 (flat encR m.se p3)) rfl (vt rfl) (AV.cons (vt rfl) (AV.nil)) (fun w hu hh => spoilRRs m.se o3 c3 p3 w ok3 hh (by omega)) ?_; rintro _ _ ⟨y3, hy3, rfl⟩
  refine WL.nil (Q.tn ?_)
  refine CW.region ?_
  first | refine W.p O.fb ?_ | refine W.p O.fa ?_
  refine W.p O.ld ?_
  refine W.callS (first := []) (cap := []) (rowL o4 96 (flat encR m.ad p4)) rfl (vt rfl) (AV.cons (vt rfl) (AV.nil)) (fun w hu hh => spoilRRs m.ad o4 c4 p4 w ok4 hh (by omega)) ?_; rintro _ _ ⟨y4, hy4, rfl⟩
  refine WL.nil ?_
  refine ⟨_, [], RVs.nil, List.nil_sublist _, ?_⟩
  rfl
end Go.Proofs.Ytkjcmdgideddnaa
