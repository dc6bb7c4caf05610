/- What the functions of package rr come to. Conditions: the texts are not longer than some 2^42 bytes, the rows not than a thousand millions. -/
import Derived.Test.YtfmdaijkgjkmpaaGreatDoorWire
import Derived.Test.YtfmdaijkgjkmpaaGreatDoorPRL
import Derived.Test.YtfmdaijkgjkmpaaGreatDoorLaw0
set_option linter.unusedVariables false
set_option linter.unusedSimpArgs false
namespace Go.Proofs.YtfmdaijkgjkmpaaGreatDoor
open Go Go.RowKit
abbrev vR (r : RR) : Value := .agg (encR r).toArray
set_option maxRecDepth 100000 in
theorem rr_word (x : Int) (w : World) : Fn Tryz.prog 133 [.int .i64 x] w [] fun v L' => v = .bool (word x) ∧ L' = [] := by
 refine Fn.enter Tryz.func133 rfl rfl rfl rfl (Holds.nil w) ?_
 refine W.go ?_
 refine ⟨_, [], (RVs.tmp rfl RVs.nil), List.nil_sublist _, ?_⟩
 refine ⟨congrArg Value.bool ?_, rfl⟩
 rw [word]; cases decide (0 ≤ x) <;> rfl
set_option maxRecDepth 100000 in
theorem rr_May (r : RR) (w : World) (h1 : r.name.length ≤ 140737488355328) (h2 : r.target.length ≤ 140737488355328) : Fn Tryz.prog 109 [vR r] w [] fun v L' => v = .bool (rrMay r) ∧ L' = [] := by
 refine Fn.enter Tryz.func109 rfl rfl rfl rfl (Holds.nil w) ?_
 refine W.go ?_
 refine W.bx rfl (vt rfl) rfl fun b1 => ?_
 refine W.go ?_
 refine W.p (O.bd (hv := PV.cons (vt rfl) (PV.cons (vt rfl) (PV.cons (vt rfl) (PV.nil))))) ?_
 refine W.al rfl rfl fun b2 => ?_
 refine W.st (vt rfl) (vt rfl) rfl ?_
 refine W.go ?_
 refine CW.cond (vt rfl) (fun hc1 => ?_) (fun hc1 => ?_)
 ·try simp only [sk] at hc1
  refine CW.draw 6 rfl (by kernel_rfl) ?_
  first | refine WQ.p O.fb ?_ | refine WQ.p O.fa ?_
  refine WQ.p O.ld ?_
  first | refine WQ.p O.fb ?_ | refine WQ.p O.fa ?_
  refine WQ.p O.ld ?_
  refine WQ.q (O.call ⟨rfl, rfl⟩ (AV.cons (vt rfl) (AV.nil)) (fun _ w hw => rr_word _ w)) ?_
  first | refine WQ.p O.fb ?_ | refine WQ.p O.fa ?_
  refine WQ.nil ?_
  first | refine W.st (vt rfl) (vt rfl) rfl ?_ | refine W.st (u := .int _ _) (vt rfl) (vt rfl) rfl ?_
  refine W.go ?_
  refine W.q (O.call ⟨rfl, rfl⟩ (AV.cons (vs rfl) (AV.nil)) (fun _ w hw => nm_May _ w (by omega))) ?_
  refine W.go ?_
  refine ⟨_, [], (RVs.tmp rfl RVs.nil), List.nil_sublist _, ?_⟩
  refine ⟨congrArg Value.bool ?_, rfl⟩
  have hS : ∀ l : List UInt8, (S l).data.toList = l := fun _ => rfl
  simp only [hS]
  rw [Bool.eq_iff_iff]
  simp [rrMay, rrBody, isName, *]
  try grind
 try simp only [sk] at hc1
 refine W.go ?_
 refine CW.cond (vt rfl) (fun hc2 => ?_) (fun hc2 => ?_)
 ·try simp only [sk] at hc2
  refine W.go ?_
  refine CW.cond (vt rfl) (fun hc3 => ?_) (fun hc3 => ?_)
  ·try simp only [sk] at hc3
   refine CW.draw 6 rfl (by kernel_rfl) ?_
   first | refine WQ.p O.fb ?_ | refine WQ.p O.fa ?_
   refine WQ.p O.ld ?_
   first | refine WQ.p O.fb ?_ | refine WQ.p O.fa ?_
   refine WQ.p O.ld ?_
   refine WQ.q (O.call ⟨rfl, rfl⟩ (AV.cons (vt rfl) (AV.nil)) (fun _ w hw => nm_May _ w (by omega))) ?_
   first | refine WQ.p O.fb ?_ | refine WQ.p O.fa ?_
   refine WQ.nil ?_
   first | refine W.st (vt rfl) (vt rfl) rfl ?_ | refine W.st (u := .string _) (vt rfl) (vt rfl) rfl ?_
   refine W.go ?_
   refine W.q (O.call ⟨rfl, rfl⟩ (AV.cons (vs rfl) (AV.nil)) (fun _ w hw => nm_May _ w (by omega))) ?_
   refine W.go ?_
   refine ⟨_, [], (RVs.tmp rfl RVs.nil), List.nil_sublist _, ?_⟩
   refine ⟨congrArg Value.bool ?_, rfl⟩
   have hS : ∀ l : List UInt8, (S l).data.toList = l := fun _ => rfl
   simp only [hS]
   rw [Bool.eq_iff_iff]
   simp [rrMay, rrBody, isName, *]
   try grind
  try simp only [sk] at hc3
  refine W.go ?_
  refine CW.cond (vt rfl) (fun hc4 => ?_) (fun hc4 => ?_)
  ·try simp only [sk] at hc4
   refine CW.drawC [.pin, .pin, .flo, .flo, .pin, .pin, .pin, .pin, .pin, .pin, .pin, .flo, .pin, .lou, .flo, .lou, .flo] [(b1, .cells (encR r).toArray 58 (0, 0))] rfl (by kernel_rfl) (by repeat (first | exact List.nil_sublist _ | exact List.Sublist.refl _ | apply List.Sublist.cons_cons | apply List.Sublist.cons)) ?_
   first | refine WX.p (QV.q O.fb) ?_ | refine WX.p (QV.q O.fa) ?_
   refine WX.p (QV.q O.ld) ?_
   first | refine WX.f (QV.q O.fb) ?_ | refine WX.f (QV.q O.fa) ?_
   refine WX.f (QV.q O.ld) ?_
   first | refine WX.p (QV.q O.fb) ?_ | refine WX.p (QV.q O.fa) ?_
   refine WX.p (QV.q O.ld) ?_
   refine WX.p (O.call ⟨rfl, rfl⟩ (AV.cons (vt rfl) (AV.nil)) (fun _ w hw => nm_May _ w (by omega))) ?_
   refine WX.p (QV.q O.mv) ?_
   first | refine WX.p (QV.q O.fb) ?_ | refine WX.p (QV.q O.fa) ?_
   refine WX.p (QV.q O.ld) ?_
   refine WX.p (O.call ⟨rfl, rfl⟩ (AV.cons (vs rfl) (AV.nil)) (fun _ w hw => rr_word _ w)) ?_
   refine WX.f (QV.q O.pkB) ?_
   first | refine WX.p (QV.q O.fb) ?_ | refine WX.p (QV.q O.fa) ?_
   refine WX.l (O.st (vt rfl) (vt rfl) rfl) (by repeat (first | exact List.nil_sublist _ | exact List.Sublist.refl _ | apply List.Sublist.cons_cons | apply List.Sublist.cons)) ?_
   first | refine WX.f (QV.q O.fb) ?_ | refine WX.f (QV.q O.fa) ?_
   refine WX.l (O.st (vt rfl) (vt rfl) rfl) (by repeat (first | exact List.nil_sublist _ | exact List.Sublist.refl _ | apply List.Sublist.cons_cons | apply List.Sublist.cons)) ?_
   refine WX.f (QV.q O.as) ?_
   refine WX.nil (Q.bn (Q.tn ?_))
   refine W.go ?_
   refine W.q (O.call ⟨rfl, rfl⟩ (AV.cons (vs rfl) (AV.nil)) (fun _ w hw => nm_May _ w (by omega))) ?_
   refine W.go ?_
   refine ⟨_, [], (RVs.tmp rfl RVs.nil), List.nil_sublist _, ?_⟩
   refine ⟨congrArg Value.bool ?_, rfl⟩
   have hS : ∀ l : List UInt8, (S l).data.toList = l := fun _ => rfl
   simp only [hS]
   rw [Bool.eq_iff_iff]
   simp [rrMay, rrBody, isName, *]
   try grind
  try simp only [sk] at hc4
  refine W.go ?_
  refine CW.cond (vt rfl) (fun hc5 => ?_) (fun hc5 => ?_)
  ·try simp only [sk] at hc5
   refine W.go ?_
   refine CW.cond (vt rfl) (fun hc6 => ?_) (fun hc6 => ?_)
   ·try simp only [sk] at hc6
    refine CW.drawC [.pin, .pin, .flo, .flo, .flo, .flo, .pin, .lou, .flo] [(b1, .cells (encR r).toArray 58 (0, 0))] rfl (by kernel_rfl) (by repeat (first | exact List.nil_sublist _ | exact List.Sublist.refl _ | apply List.Sublist.cons_cons | apply List.Sublist.cons)) ?_
    first | refine WX.p (QV.q O.fb) ?_ | refine WX.p (QV.q O.fa) ?_
    refine WX.p (QV.q O.ld) ?_
    first | refine WX.f (QV.q O.fb) ?_ | refine WX.f (QV.q O.fa) ?_
    refine WX.f (QV.q O.ld) ?_
    refine WX.f (QV.q O.len) ?_
    refine WX.f (QV.q O.leq) ?_
    first | refine WX.p (QV.q O.fb) ?_ | refine WX.p (QV.q O.fa) ?_
    refine WX.l (O.st (vt rfl) (vt rfl) rfl) (by repeat (first | exact List.nil_sublist _ | exact List.Sublist.refl _ | apply List.Sublist.cons_cons | apply List.Sublist.cons)) ?_
    refine WX.f (QV.q O.as) ?_
    refine WX.nil (Q.bn (Q.tn ?_))
    refine W.go ?_
    refine W.q (O.call ⟨rfl, rfl⟩ (AV.cons (vs rfl) (AV.nil)) (fun _ w hw => nm_May _ w (by omega))) ?_
    refine W.go ?_
    refine ⟨_, [], (RVs.tmp rfl RVs.nil), List.nil_sublist _, ?_⟩
    refine ⟨congrArg Value.bool ?_, rfl⟩
    have hS : ∀ l : List UInt8, (S l).data.toList = l := fun _ => rfl
    simp only [hS]
    rw [Bool.eq_iff_iff]
    simp [rrMay, rrBody, isName, *]
    try grind
   try simp only [sk] at hc6
   refine W.go ?_
   refine W.q (O.call ⟨rfl, rfl⟩ (AV.cons (vs rfl) (AV.nil)) (fun _ w hw => nm_May _ w (by omega))) ?_
   refine W.go ?_
   refine ⟨_, [], (RVs.tmp rfl RVs.nil), List.nil_sublist _, ?_⟩
   refine ⟨congrArg Value.bool ?_, rfl⟩
   have hS : ∀ l : List UInt8, (S l).data.toList = l := fun _ => rfl
   simp only [hS]
   rw [Bool.eq_iff_iff]
   simp [rrMay, rrBody, isName, *]
   try grind
  try simp only [sk] at hc5
  refine W.go ?_
  refine CW.cond (vt rfl) (fun hc7 => ?_) (fun hc7 => ?_)
  ·try simp only [sk] at hc7
   refine CW.drawC [.pin, .pin, .flo, .flo, .flo, .flo, .pin, .lou, .flo] [(b1, .cells (encR r).toArray 58 (0, 0))] rfl (by kernel_rfl) (by repeat (first | exact List.nil_sublist _ | exact List.Sublist.refl _ | apply List.Sublist.cons_cons | apply List.Sublist.cons)) ?_
   first | refine WX.p (QV.q O.fb) ?_ | refine WX.p (QV.q O.fa) ?_
   refine WX.p (QV.q O.ld) ?_
   first | refine WX.f (QV.q O.fb) ?_ | refine WX.f (QV.q O.fa) ?_
   refine WX.f (QV.q O.ld) ?_
   refine WX.f (QV.q O.len) ?_
   refine WX.f (QV.q O.leq) ?_
   first | refine WX.p (QV.q O.fb) ?_ | refine WX.p (QV.q O.fa) ?_
   refine WX.l (O.st (vt rfl) (vt rfl) rfl) (by repeat (first | exact List.nil_sublist _ | exact List.Sublist.refl _ | apply List.Sublist.cons_cons | apply List.Sublist.cons)) ?_
   refine WX.f (QV.q O.as) ?_
   refine WX.nil (Q.bn (Q.tn ?_))
   refine W.go ?_
   refine W.q (O.call ⟨rfl, rfl⟩ (AV.cons (vs rfl) (AV.nil)) (fun _ w hw => nm_May _ w (by omega))) ?_
   refine W.go ?_
   refine ⟨_, [], (RVs.tmp rfl RVs.nil), List.nil_sublist _, ?_⟩
   refine ⟨congrArg Value.bool ?_, rfl⟩
   have hS : ∀ l : List UInt8, (S l).data.toList = l := fun _ => rfl
   simp only [hS]
   rw [Bool.eq_iff_iff]
   simp [rrMay, rrBody, isName, *]
   try grind
  try simp only [sk] at hc7
  refine W.go ?_
  refine W.q (O.call ⟨rfl, rfl⟩ (AV.cons (vs rfl) (AV.nil)) (fun _ w hw => nm_May _ w (by omega))) ?_
  refine W.go ?_
  refine ⟨_, [], (RVs.tmp rfl RVs.nil), List.nil_sublist _, ?_⟩
  refine ⟨congrArg Value.bool ?_, rfl⟩
  have hS : ∀ l : List UInt8, (S l).data.toList = l := fun _ => rfl
  simp only [hS]
  rw [Bool.eq_iff_iff]
  simp [rrMay, rrBody, isName, *]
  try grind
 try simp only [sk] at hc2
 refine W.go ?_
 refine CW.cond (vt rfl) (fun hc8 => ?_) (fun hc8 => ?_)
 ·try simp only [sk] at hc8
  refine W.go ?_
  refine CW.cond (vt rfl) (fun hc9 => ?_) (fun hc9 => ?_)
  ·try simp only [sk] at hc9
   refine CW.draw 6 rfl (by kernel_rfl) ?_
   first | refine WQ.p O.fb ?_ | refine WQ.p O.fa ?_
   refine WQ.p O.ld ?_
   first | refine WQ.p O.fb ?_ | refine WQ.p O.fa ?_
   refine WQ.p O.ld ?_
   refine WQ.q (O.call ⟨rfl, rfl⟩ (AV.cons (vt rfl) (AV.nil)) (fun _ w hw => nm_May _ w (by omega))) ?_
   first | refine WQ.p O.fb ?_ | refine WQ.p O.fa ?_
   refine WQ.nil ?_
   first | refine W.st (vt rfl) (vt rfl) rfl ?_ | refine W.st (u := .string _) (vt rfl) (vt rfl) rfl ?_
   refine W.go ?_
   refine W.q (O.call ⟨rfl, rfl⟩ (AV.cons (vs rfl) (AV.nil)) (fun _ w hw => nm_May _ w (by omega))) ?_
   refine W.go ?_
   refine ⟨_, [], (RVs.tmp rfl RVs.nil), List.nil_sublist _, ?_⟩
   refine ⟨congrArg Value.bool ?_, rfl⟩
   have hS : ∀ l : List UInt8, (S l).data.toList = l := fun _ => rfl
   simp only [hS]
   rw [Bool.eq_iff_iff]
   simp [rrMay, rrBody, isName, *]
   try grind
  try simp only [sk] at hc9
  refine W.go ?_
  refine CW.cond (vt rfl) (fun hc10 => ?_) (fun hc10 => ?_)
  ·try simp only [sk] at hc10
   refine CW.drawC [.pin, .pin, .flo, .flo, .pin, .pin, .pin, .pin, .pin, .pin, .pin, .flo, .pin, .lou, .flo, .lou, .flo] [(b1, .cells (encR r).toArray 58 (0, 0))] rfl (by kernel_rfl) (by repeat (first | exact List.nil_sublist _ | exact List.Sublist.refl _ | apply List.Sublist.cons_cons | apply List.Sublist.cons)) ?_
   first | refine WX.p (QV.q O.fb) ?_ | refine WX.p (QV.q O.fa) ?_
   refine WX.p (QV.q O.ld) ?_
   first | refine WX.f (QV.q O.fb) ?_ | refine WX.f (QV.q O.fa) ?_
   refine WX.f (QV.q O.ld) ?_
   first | refine WX.p (QV.q O.fb) ?_ | refine WX.p (QV.q O.fa) ?_
   refine WX.p (QV.q O.ld) ?_
   refine WX.p (O.call ⟨rfl, rfl⟩ (AV.cons (vt rfl) (AV.nil)) (fun _ w hw => nm_May _ w (by omega))) ?_
   refine WX.p (QV.q O.mv) ?_
   first | refine WX.p (QV.q O.fb) ?_ | refine WX.p (QV.q O.fa) ?_
   refine WX.p (QV.q O.ld) ?_
   refine WX.p (O.call ⟨rfl, rfl⟩ (AV.cons (vs rfl) (AV.nil)) (fun _ w hw => rr_word _ w)) ?_
   refine WX.f (QV.q O.pkB) ?_
   first | refine WX.p (QV.q O.fb) ?_ | refine WX.p (QV.q O.fa) ?_
   refine WX.l (O.st (vt rfl) (vt rfl) rfl) (by repeat (first | exact List.nil_sublist _ | exact List.Sublist.refl _ | apply List.Sublist.cons_cons | apply List.Sublist.cons)) ?_
   first | refine WX.f (QV.q O.fb) ?_ | refine WX.f (QV.q O.fa) ?_
   refine WX.l (O.st (vt rfl) (vt rfl) rfl) (by repeat (first | exact List.nil_sublist _ | exact List.Sublist.refl _ | apply List.Sublist.cons_cons | apply List.Sublist.cons)) ?_
   refine WX.f (QV.q O.as) ?_
   refine WX.nil (Q.bn (Q.tn ?_))
   refine W.go ?_
   refine W.q (O.call ⟨rfl, rfl⟩ (AV.cons (vs rfl) (AV.nil)) (fun _ w hw => nm_May _ w (by omega))) ?_
   refine W.go ?_
   refine ⟨_, [], (RVs.tmp rfl RVs.nil), List.nil_sublist _, ?_⟩
   refine ⟨congrArg Value.bool ?_, rfl⟩
   have hS : ∀ l : List UInt8, (S l).data.toList = l := fun _ => rfl
   simp only [hS]
   rw [Bool.eq_iff_iff]
   simp [rrMay, rrBody, isName, *]
   try grind
  try simp only [sk] at hc10
  refine W.go ?_
  refine CW.cond (vt rfl) (fun hc11 => ?_) (fun hc11 => ?_)
  ·try simp only [sk] at hc11
   refine W.go ?_
   refine CW.cond (vt rfl) (fun hc12 => ?_) (fun hc12 => ?_)
   ·try simp only [sk] at hc12
    refine CW.drawC [.pin, .pin, .flo, .flo, .flo, .flo, .pin, .lou, .flo] [(b1, .cells (encR r).toArray 58 (0, 0))] rfl (by kernel_rfl) (by repeat (first | exact List.nil_sublist _ | exact List.Sublist.refl _ | apply List.Sublist.cons_cons | apply List.Sublist.cons)) ?_
    first | refine WX.p (QV.q O.fb) ?_ | refine WX.p (QV.q O.fa) ?_
    refine WX.p (QV.q O.ld) ?_
    first | refine WX.f (QV.q O.fb) ?_ | refine WX.f (QV.q O.fa) ?_
    refine WX.f (QV.q O.ld) ?_
    refine WX.f (QV.q O.len) ?_
    refine WX.f (QV.q O.leq) ?_
    first | refine WX.p (QV.q O.fb) ?_ | refine WX.p (QV.q O.fa) ?_
    refine WX.l (O.st (vt rfl) (vt rfl) rfl) (by repeat (first | exact List.nil_sublist _ | exact List.Sublist.refl _ | apply List.Sublist.cons_cons | apply List.Sublist.cons)) ?_
    refine WX.f (QV.q O.as) ?_
    refine WX.nil (Q.bn (Q.tn ?_))
    refine W.go ?_
    refine W.q (O.call ⟨rfl, rfl⟩ (AV.cons (vs rfl) (AV.nil)) (fun _ w hw => nm_May _ w (by omega))) ?_
    refine W.go ?_
    refine ⟨_, [], (RVs.tmp rfl RVs.nil), List.nil_sublist _, ?_⟩
    refine ⟨congrArg Value.bool ?_, rfl⟩
    have hS : ∀ l : List UInt8, (S l).data.toList = l := fun _ => rfl
    simp only [hS]
    rw [Bool.eq_iff_iff]
    simp [rrMay, rrBody, isName, *]
    try grind
   try simp only [sk] at hc12
   refine W.go ?_
   refine W.q (O.call ⟨rfl, rfl⟩ (AV.cons (vs rfl) (AV.nil)) (fun _ w hw => nm_May _ w (by omega))) ?_
   refine W.go ?_
   refine ⟨_, [], (RVs.tmp rfl RVs.nil), List.nil_sublist _, ?_⟩
   refine ⟨congrArg Value.bool ?_, rfl⟩
   have hS : ∀ l : List UInt8, (S l).data.toList = l := fun _ => rfl
   simp only [hS]
   rw [Bool.eq_iff_iff]
   simp [rrMay, rrBody, isName, *]
   try grind
  try simp only [sk] at hc11
  refine W.go ?_
  refine CW.cond (vt rfl) (fun hc13 => ?_) (fun hc13 => ?_)
  ·try simp only [sk] at hc13
   refine CW.drawC [.pin, .pin, .flo, .flo, .flo, .flo, .pin, .lou, .flo] [(b1, .cells (encR r).toArray 58 (0, 0))] rfl (by kernel_rfl) (by repeat (first | exact List.nil_sublist _ | exact List.Sublist.refl _ | apply List.Sublist.cons_cons | apply List.Sublist.cons)) ?_
   first | refine WX.p (QV.q O.fb) ?_ | refine WX.p (QV.q O.fa) ?_
   refine WX.p (QV.q O.ld) ?_
   first | refine WX.f (QV.q O.fb) ?_ | refine WX.f (QV.q O.fa) ?_
   refine WX.f (QV.q O.ld) ?_
   refine WX.f (QV.q O.len) ?_
   refine WX.f (QV.q O.leq) ?_
   first | refine WX.p (QV.q O.fb) ?_ | refine WX.p (QV.q O.fa) ?_
   refine WX.l (O.st (vt rfl) (vt rfl) rfl) (by repeat (first | exact List.nil_sublist _ | exact List.Sublist.refl _ | apply List.Sublist.cons_cons | apply List.Sublist.cons)) ?_
   refine WX.f (QV.q O.as) ?_
   refine WX.nil (Q.bn (Q.tn ?_))
   refine W.go ?_
   refine W.q (O.call ⟨rfl, rfl⟩ (AV.cons (vs rfl) (AV.nil)) (fun _ w hw => nm_May _ w (by omega))) ?_
   refine W.go ?_
   refine ⟨_, [], (RVs.tmp rfl RVs.nil), List.nil_sublist _, ?_⟩
   refine ⟨congrArg Value.bool ?_, rfl⟩
   have hS : ∀ l : List UInt8, (S l).data.toList = l := fun _ => rfl
   simp only [hS]
   rw [Bool.eq_iff_iff]
   simp [rrMay, rrBody, isName, *]
   try grind
  try simp only [sk] at hc13
  refine W.go ?_
  refine W.q (O.call ⟨rfl, rfl⟩ (AV.cons (vs rfl) (AV.nil)) (fun _ w hw => nm_May _ w (by omega))) ?_
  refine W.go ?_
  refine ⟨_, [], (RVs.tmp rfl RVs.nil), List.nil_sublist _, ?_⟩
  refine ⟨congrArg Value.bool ?_, rfl⟩
  have hS : ∀ l : List UInt8, (S l).data.toList = l := fun _ => rfl
  simp only [hS]
  rw [Bool.eq_iff_iff]
  simp [rrMay, rrBody, isName, *]
  try grind
 try simp only [sk] at hc8
 refine W.go ?_
 refine CW.cond (vt rfl) (fun hc14 => ?_) (fun hc14 => ?_)
 ·try simp only [sk] at hc14
  refine CW.draw 6 rfl (by kernel_rfl) ?_
  first | refine WQ.p O.fb ?_ | refine WQ.p O.fa ?_
  refine WQ.p O.ld ?_
  first | refine WQ.p O.fb ?_ | refine WQ.p O.fa ?_
  refine WQ.p O.ld ?_
  refine WQ.q (O.call ⟨rfl, rfl⟩ (AV.cons (vt rfl) (AV.nil)) (fun _ w hw => nm_May _ w (by omega))) ?_
  first | refine WQ.p O.fb ?_ | refine WQ.p O.fa ?_
  refine WQ.nil ?_
  first | refine W.st (vt rfl) (vt rfl) rfl ?_ | refine W.st (u := .string _) (vt rfl) (vt rfl) rfl ?_
  refine W.go ?_
  refine W.q (O.call ⟨rfl, rfl⟩ (AV.cons (vs rfl) (AV.nil)) (fun _ w hw => nm_May _ w (by omega))) ?_
  refine W.go ?_
  refine ⟨_, [], (RVs.tmp rfl RVs.nil), List.nil_sublist _, ?_⟩
  refine ⟨congrArg Value.bool ?_, rfl⟩
  have hS : ∀ l : List UInt8, (S l).data.toList = l := fun _ => rfl
  simp only [hS]
  rw [Bool.eq_iff_iff]
  simp [rrMay, rrBody, isName, *]
  try grind
 try simp only [sk] at hc14
 refine W.go ?_
 refine CW.cond (vt rfl) (fun hc15 => ?_) (fun hc15 => ?_)
 ·try simp only [sk] at hc15
  refine CW.drawC [.pin, .pin, .flo, .flo, .pin, .pin, .pin, .pin, .pin, .pin, .pin, .flo, .pin, .lou, .flo, .lou, .flo] [(b1, .cells (encR r).toArray 58 (0, 0))] rfl (by kernel_rfl) (by repeat (first | exact List.nil_sublist _ | exact List.Sublist.refl _ | apply List.Sublist.cons_cons | apply List.Sublist.cons)) ?_
  first | refine WX.p (QV.q O.fb) ?_ | refine WX.p (QV.q O.fa) ?_
  refine WX.p (QV.q O.ld) ?_
  first | refine WX.f (QV.q O.fb) ?_ | refine WX.f (QV.q O.fa) ?_
  refine WX.f (QV.q O.ld) ?_
  first | refine WX.p (QV.q O.fb) ?_ | refine WX.p (QV.q O.fa) ?_
  refine WX.p (QV.q O.ld) ?_
  refine WX.p (O.call ⟨rfl, rfl⟩ (AV.cons (vt rfl) (AV.nil)) (fun _ w hw => nm_May _ w (by omega))) ?_
  refine WX.p (QV.q O.mv) ?_
  first | refine WX.p (QV.q O.fb) ?_ | refine WX.p (QV.q O.fa) ?_
  refine WX.p (QV.q O.ld) ?_
  refine WX.p (O.call ⟨rfl, rfl⟩ (AV.cons (vs rfl) (AV.nil)) (fun _ w hw => rr_word _ w)) ?_
  refine WX.f (QV.q O.pkB) ?_
  first | refine WX.p (QV.q O.fb) ?_ | refine WX.p (QV.q O.fa) ?_
  refine WX.l (O.st (vt rfl) (vt rfl) rfl) (by repeat (first | exact List.nil_sublist _ | exact List.Sublist.refl _ | apply List.Sublist.cons_cons | apply List.Sublist.cons)) ?_
  first | refine WX.f (QV.q O.fb) ?_ | refine WX.f (QV.q O.fa) ?_
  refine WX.l (O.st (vt rfl) (vt rfl) rfl) (by repeat (first | exact List.nil_sublist _ | exact List.Sublist.refl _ | apply List.Sublist.cons_cons | apply List.Sublist.cons)) ?_
  refine WX.f (QV.q O.as) ?_
  refine WX.nil (Q.bn (Q.tn ?_))
  refine W.go ?_
  refine W.q (O.call ⟨rfl, rfl⟩ (AV.cons (vs rfl) (AV.nil)) (fun _ w hw => nm_May _ w (by omega))) ?_
  refine W.go ?_
  refine ⟨_, [], (RVs.tmp rfl RVs.nil), List.nil_sublist _, ?_⟩
  refine ⟨congrArg Value.bool ?_, rfl⟩
  have hS : ∀ l : List UInt8, (S l).data.toList = l := fun _ => rfl
  simp only [hS]
  rw [Bool.eq_iff_iff]
  simp [rrMay, rrBody, isName, *]
  try grind
 try simp only [sk] at hc15
 refine W.go ?_
 refine CW.cond (vt rfl) (fun hc16 => ?_) (fun hc16 => ?_)
 ·try simp only [sk] at hc16
  refine W.go ?_
  refine CW.cond (vt rfl) (fun hc17 => ?_) (fun hc17 => ?_)
  ·try simp only [sk] at hc17
   refine CW.drawC [.pin, .pin, .flo, .flo, .flo, .flo, .pin, .lou, .flo] [(b1, .cells (encR r).toArray 58 (0, 0))] rfl (by kernel_rfl) (by repeat (first | exact List.nil_sublist _ | exact List.Sublist.refl _ | apply List.Sublist.cons_cons | apply List.Sublist.cons)) ?_
   first | refine WX.p (QV.q O.fb) ?_ | refine WX.p (QV.q O.fa) ?_
   refine WX.p (QV.q O.ld) ?_
   first | refine WX.f (QV.q O.fb) ?_ | refine WX.f (QV.q O.fa) ?_
   refine WX.f (QV.q O.ld) ?_
   refine WX.f (QV.q O.len) ?_
   refine WX.f (QV.q O.leq) ?_
   first | refine WX.p (QV.q O.fb) ?_ | refine WX.p (QV.q O.fa) ?_
   refine WX.l (O.st (vt rfl) (vt rfl) rfl) (by repeat (first | exact List.nil_sublist _ | exact List.Sublist.refl _ | apply List.Sublist.cons_cons | apply List.Sublist.cons)) ?_
   refine WX.f (QV.q O.as) ?_
   refine WX.nil (Q.bn (Q.tn ?_))
   refine W.go ?_
   refine W.q (O.call ⟨rfl, rfl⟩ (AV.cons (vs rfl) (AV.nil)) (fun _ w hw => nm_May _ w (by omega))) ?_
   refine W.go ?_
   refine ⟨_, [], (RVs.tmp rfl RVs.nil), List.nil_sublist _, ?_⟩
   refine ⟨congrArg Value.bool ?_, rfl⟩
   have hS : ∀ l : List UInt8, (S l).data.toList = l := fun _ => rfl
   simp only [hS]
   rw [Bool.eq_iff_iff]
   simp [rrMay, rrBody, isName, *]
   try grind
  try simp only [sk] at hc17
  refine W.go ?_
  refine W.q (O.call ⟨rfl, rfl⟩ (AV.cons (vs rfl) (AV.nil)) (fun _ w hw => nm_May _ w (by omega))) ?_
  refine W.go ?_
  refine ⟨_, [], (RVs.tmp rfl RVs.nil), List.nil_sublist _, ?_⟩
  refine ⟨congrArg Value.bool ?_, rfl⟩
  have hS : ∀ l : List UInt8, (S l).data.toList = l := fun _ => rfl
  simp only [hS]
  rw [Bool.eq_iff_iff]
  simp [rrMay, rrBody, isName, *]
  try grind
 try simp only [sk] at hc16
 refine W.go ?_
 refine CW.cond (vt rfl) (fun hc18 => ?_) (fun hc18 => ?_)
 ·try simp only [sk] at hc18
  refine CW.drawC [.pin, .pin, .flo, .flo, .flo, .flo, .pin, .lou, .flo] [(b1, .cells (encR r).toArray 58 (0, 0))] rfl (by kernel_rfl) (by repeat (first | exact List.nil_sublist _ | exact List.Sublist.refl _ | apply List.Sublist.cons_cons | apply List.Sublist.cons)) ?_
  first | refine WX.p (QV.q O.fb) ?_ | refine WX.p (QV.q O.fa) ?_
  refine WX.p (QV.q O.ld) ?_
  first | refine WX.f (QV.q O.fb) ?_ | refine WX.f (QV.q O.fa) ?_
  refine WX.f (QV.q O.ld) ?_
  refine WX.f (QV.q O.len) ?_
  refine WX.f (QV.q O.leq) ?_
  first | refine WX.p (QV.q O.fb) ?_ | refine WX.p (QV.q O.fa) ?_
  refine WX.l (O.st (vt rfl) (vt rfl) rfl) (by repeat (first | exact List.nil_sublist _ | exact List.Sublist.refl _ | apply List.Sublist.cons_cons | apply List.Sublist.cons)) ?_
  refine WX.f (QV.q O.as) ?_
  refine WX.nil (Q.bn (Q.tn ?_))
  refine W.go ?_
  refine W.q (O.call ⟨rfl, rfl⟩ (AV.cons (vs rfl) (AV.nil)) (fun _ w hw => nm_May _ w (by omega))) ?_
  refine W.go ?_
  refine ⟨_, [], (RVs.tmp rfl RVs.nil), List.nil_sublist _, ?_⟩
  refine ⟨congrArg Value.bool ?_, rfl⟩
  have hS : ∀ l : List UInt8, (S l).data.toList = l := fun _ => rfl
  simp only [hS]
  rw [Bool.eq_iff_iff]
  simp [rrMay, rrBody, isName, *]
  try grind
 try simp only [sk] at hc18
 refine W.go ?_
 refine W.q (O.call ⟨rfl, rfl⟩ (AV.cons (vs rfl) (AV.nil)) (fun _ w hw => nm_May _ w (by omega))) ?_
 refine W.go ?_
 refine ⟨_, [], (RVs.tmp rfl RVs.nil), List.nil_sublist _, ?_⟩
 refine ⟨congrArg Value.bool ?_, rfl⟩
 have hS : ∀ l : List UInt8, (S l).data.toList = l := fun _ => rfl
 simp only [hS]
 rw [Bool.eq_iff_iff]
 simp [rrMay, rrBody, isName, *]
 try grind
set_option maxRecDepth 100000 in
theorem rr_times (w : World) : Fn Tryz.prog 147 [] w [] (Fresh encI 3 1 [60, 60, 600, 60]) := by
 refine Fn.enter Tryz.func147 rfl rfl rfl rfl (Holds.nil w) ?_
 refine CW.seq ?_
 refine CW.region ?_
 refine W.p O.as ?_
 refine WL.nil (Q.tn ?_)
 refine CW.seq ?_
 refine CW.region ?_
 refine W.bs encI [60, 60, 600, 60] rfl (PV.cons (vt rfl) (PV.cons (vt rfl) (PV.cons (vt rfl) (PV.cons (vt rfl) (PV.nil))))) rfl rfl rfl (by decide) rfl fun b1 => ?_
 refine W.go ?_
 refine ⟨_, rowL (some b1) 3 (flat encI [60, 60, 600, 60] []), (RVs.tmp rfl RVs.nil), (by repeat (first | exact List.Sublist.refl _ | exact hSub _ | exact List.sublist_append_left _ _ | exact List.nil_sublist _ | refine List.Sublist.append (List.Sublist.refl _) ?_ | apply List.Sublist.cons_cons | apply List.Sublist.cons | exact List.sublist_append_left _ _ | refine List.Sublist.trans ?_ (List.sublist_append_right _ _))), ?_⟩
 exact ⟨some b1, 4, [], rfl, ⟨by simp, by simp, by simp, by decide⟩, rfl⟩
end Go.Proofs.YtfmdaijkgjkmpaaGreatDoor
