/- Several texts in one (RrRef). Their conditions are their own. -/
import Derived.Test.YtfmdaijkgjkmpaaGreatDoorRrTak
import Derived.Test.YtfmdaijkgjkmpaaGreatDoorRName
set_option linter.unusedVariables false
set_option linter.unusedSimpArgs false
namespace Go.Proofs.YtfmdaijkgjkmpaaGreatDoor
open Go Go.RowKit
set_option maxRecDepth 100000 in
theorem ref_RrMay (r : RR) (w : World) (h1 : r.name.length ≤ 4398046511104) (h2 : r.target.length ≤ 4398046511104) : Fn Tryz.prog 120 [vR r] w [] fun v L' => v = .bool (rrMay r) ∧ L' = [] := by
 refine Fn.enter Tryz.func120 rfl rfl rfl rfl (Holds.nil w) ?_
 refine W.go ?_
 refine W.bx rfl (vt rfl) rfl fun b1 => ?_
 refine W.go ?_
 refine W.p (O.bd (hv := PV.cons (vt rfl) (PV.cons (vt rfl) (PV.cons (vt rfl) (PV.nil))))) ?_
 refine W.al rfl rfl fun b2 => ?_
 refine W.st (vt rfl) (vt rfl) rfl ?_
 refine W.go ?_
 refine CW.cond (vt rfl) (fun hc1 => ?_) (fun hc1 => ?_)
 ·try simp only [sk] at hc1
  refine W.go ?_
  first | refine W.st (vt rfl) (vt rfl) rfl ?_ | refine W.st (u := .int _ _) (vt rfl) (vt rfl) rfl ?_
  refine W.go ?_
  refine W.q (O.call ⟨rfl, rfl⟩ (AV.cons (vs rfl) (AV.nil)) (fun _ w hw => ref_NameMay _ w (by omega))) ?_
  refine W.go ?_
  refine W.q (O.call ⟨rfl, rfl⟩ (AV.cons (vs rfl) (AV.cons (vt rfl) (AV.nil))) (fun _ w hw => ref_within _ 32 w (by decide))) ?_
  refine W.go ?_
  refine W.q (O.call ⟨rfl, rfl⟩ (AV.cons (vs rfl) (AV.nil)) (fun _ w hw => ref_NameMay _ w (by omega))) ?_
  refine W.go ?_
  refine W.q (O.call ⟨rfl, rfl⟩ (AV.cons (vs rfl) (AV.cons (vt rfl) (AV.nil))) (fun _ w hw => ref_within _ 32 w (by decide))) ?_
  refine W.go ?_
  refine ⟨_, [], (RVs.tmp rfl RVs.nil), List.nil_sublist _, ?_⟩
  refine ⟨congrArg Value.bool ?_, rfl⟩
  have hS : ∀ l : List UInt8, (S l).data.toList = l := fun _ => rfl
  have hN : nmMay [] = true := rfl
  have hZ : ([] : List UInt8).length = 0 := rfl
  try simp only [hS]
  rw [Bool.eq_iff_iff]
  simp [rrMay, rrBody, isName, word, *]
  try grind
 try simp only [sk] at hc1
 refine W.go ?_
 refine CW.cond (vt rfl) (fun hc2 => ?_) (fun hc2 => ?_)
 ·try simp only [sk] at hc2
  refine W.go ?_
  refine CW.cond (vt rfl) (fun hc3 => ?_) (fun hc3 => ?_)
  ·try simp only [sk] at hc3
   refine W.go ?_
   first | refine W.st (vt rfl) (vt rfl) rfl ?_ | refine W.st (u := .string _) (vt rfl) (vt rfl) rfl ?_
   refine W.go ?_
   refine W.q (O.call ⟨rfl, rfl⟩ (AV.cons (vs rfl) (AV.nil)) (fun _ w hw => ref_NameMay _ w (by omega))) ?_
   refine W.go ?_
   refine W.q (O.call ⟨rfl, rfl⟩ (AV.cons (vs rfl) (AV.cons (vt rfl) (AV.nil))) (fun _ w hw => ref_within _ 32 w (by decide))) ?_
   refine W.go ?_
   refine W.q (O.call ⟨rfl, rfl⟩ (AV.cons (vs rfl) (AV.nil)) (fun _ w hw => ref_NameMay _ w (by omega))) ?_
   refine W.go ?_
   refine W.q (O.call ⟨rfl, rfl⟩ (AV.cons (vs rfl) (AV.cons (vt rfl) (AV.nil))) (fun _ w hw => ref_within _ 32 w (by decide))) ?_
   refine W.go ?_
   refine ⟨_, [], (RVs.tmp rfl RVs.nil), List.nil_sublist _, ?_⟩
   refine ⟨congrArg Value.bool ?_, rfl⟩
   have hS : ∀ l : List UInt8, (S l).data.toList = l := fun _ => rfl
   have hN : nmMay [] = true := rfl
   have hZ : ([] : List UInt8).length = 0 := rfl
   try simp only [hS]
   rw [Bool.eq_iff_iff]
   simp [rrMay, rrBody, isName, word, *]
   try grind
  try simp only [sk] at hc3
  refine W.go ?_
  refine CW.cond (vt rfl) (fun hc4 => ?_) (fun hc4 => ?_)
  ·try simp only [sk] at hc4
   refine W.go ?_
   first | refine W.st (vt rfl) (vt rfl) rfl ?_ | refine W.st (u := .string _) (vt rfl) (vt rfl) rfl ?_
   refine W.go ?_
   first | refine W.st (vt rfl) (vt rfl) rfl ?_ | refine W.st (u := .int _ _) (vt rfl) (vt rfl) rfl ?_
   refine W.go ?_
   refine W.q (O.call ⟨rfl, rfl⟩ (AV.cons (vs rfl) (AV.nil)) (fun _ w hw => ref_NameMay _ w (by omega))) ?_
   refine W.go ?_
   refine W.q (O.call ⟨rfl, rfl⟩ (AV.cons (vs rfl) (AV.cons (vt rfl) (AV.nil))) (fun _ w hw => ref_within _ 32 w (by decide))) ?_
   refine W.go ?_
   refine W.q (O.call ⟨rfl, rfl⟩ (AV.cons (vs rfl) (AV.nil)) (fun _ w hw => ref_NameMay _ w (by omega))) ?_
   refine W.go ?_
   refine W.q (O.call ⟨rfl, rfl⟩ (AV.cons (vs rfl) (AV.cons (vt rfl) (AV.nil))) (fun _ w hw => ref_within _ 32 w (by decide))) ?_
   refine W.go ?_
   refine ⟨_, [], (RVs.tmp rfl RVs.nil), List.nil_sublist _, ?_⟩
   refine ⟨congrArg Value.bool ?_, rfl⟩
   have hS : ∀ l : List UInt8, (S l).data.toList = l := fun _ => rfl
   have hN : nmMay [] = true := rfl
   have hZ : ([] : List UInt8).length = 0 := rfl
   try simp only [hS]
   rw [Bool.eq_iff_iff]
   simp [rrMay, rrBody, isName, word, *]
   try grind
  try simp only [sk] at hc4
  refine W.go ?_
  refine CW.cond (vt rfl) (fun hc5 => ?_) (fun hc5 => ?_)
  ·try simp only [sk] at hc5
   refine W.go ?_
   refine CW.cond (vt rfl) (fun hc6 => ?_) (fun hc6 => ?_)
   ·try simp only [sk] at hc6
    refine W.go ?_
    first | refine W.st (vt rfl) (vt rfl) rfl ?_ | refine W.st (u := .string _) (vt rfl) (vt rfl) rfl ?_
    refine W.go ?_
    refine W.q (O.call ⟨rfl, rfl⟩ (AV.cons (vs rfl) (AV.nil)) (fun _ w hw => ref_NameMay _ w (by omega))) ?_
    refine W.go ?_
    refine W.q (O.call ⟨rfl, rfl⟩ (AV.cons (vs rfl) (AV.cons (vt rfl) (AV.nil))) (fun _ w hw => ref_within _ 32 w (by decide))) ?_
    refine W.go ?_
    refine W.q (O.call ⟨rfl, rfl⟩ (AV.cons (vs rfl) (AV.nil)) (fun _ w hw => ref_NameMay _ w (by omega))) ?_
    refine W.go ?_
    refine W.q (O.call ⟨rfl, rfl⟩ (AV.cons (vs rfl) (AV.cons (vt rfl) (AV.nil))) (fun _ w hw => ref_within _ 32 w (by decide))) ?_
    refine W.go ?_
    refine ⟨_, [], (RVs.tmp rfl RVs.nil), List.nil_sublist _, ?_⟩
    refine ⟨congrArg Value.bool ?_, rfl⟩
    have hS : ∀ l : List UInt8, (S l).data.toList = l := fun _ => rfl
    have hN : nmMay [] = true := rfl
    have hZ : ([] : List UInt8).length = 0 := rfl
    try simp only [hS]
    rw [Bool.eq_iff_iff]
    simp [rrMay, rrBody, isName, word, *]
    try grind
   try simp only [sk] at hc6
   refine W.go ?_
   refine ⟨_, [], (RVs.tmp rfl RVs.nil), List.nil_sublist _, ?_⟩
   refine ⟨congrArg Value.bool ?_, rfl⟩
   have hS : ∀ l : List UInt8, (S l).data.toList = l := fun _ => rfl
   have hN : nmMay [] = true := rfl
   have hZ : ([] : List UInt8).length = 0 := rfl
   try simp only [hS]
   rw [Bool.eq_iff_iff]
   simp [rrMay, rrBody, isName, word, *]
   try grind
  try simp only [sk] at hc5
  refine W.go ?_
  refine CW.cond (vt rfl) (fun hc7 => ?_) (fun hc7 => ?_)
  ·try simp only [sk] at hc7
   refine W.go ?_
   first | refine W.st (vt rfl) (vt rfl) rfl ?_ | refine W.st (u := .string _) (vt rfl) (vt rfl) rfl ?_
   refine W.go ?_
   refine W.q (O.call ⟨rfl, rfl⟩ (AV.cons (vs rfl) (AV.nil)) (fun _ w hw => ref_NameMay _ w (by omega))) ?_
   refine W.go ?_
   refine W.q (O.call ⟨rfl, rfl⟩ (AV.cons (vs rfl) (AV.cons (vt rfl) (AV.nil))) (fun _ w hw => ref_within _ 32 w (by decide))) ?_
   refine W.go ?_
   refine W.q (O.call ⟨rfl, rfl⟩ (AV.cons (vs rfl) (AV.nil)) (fun _ w hw => ref_NameMay _ w (by omega))) ?_
   refine W.go ?_
   refine W.q (O.call ⟨rfl, rfl⟩ (AV.cons (vs rfl) (AV.cons (vt rfl) (AV.nil))) (fun _ w hw => ref_within _ 32 w (by decide))) ?_
   refine W.go ?_
   refine ⟨_, [], (RVs.tmp rfl RVs.nil), List.nil_sublist _, ?_⟩
   refine ⟨congrArg Value.bool ?_, rfl⟩
   have hS : ∀ l : List UInt8, (S l).data.toList = l := fun _ => rfl
   have hN : nmMay [] = true := rfl
   have hZ : ([] : List UInt8).length = 0 := rfl
   try simp only [hS]
   rw [Bool.eq_iff_iff]
   simp [rrMay, rrBody, isName, word, *]
   try grind
  try simp only [sk] at hc7
  refine W.go ?_
  refine ⟨_, [], (RVs.tmp rfl RVs.nil), List.nil_sublist _, ?_⟩
  refine ⟨congrArg Value.bool ?_, rfl⟩
  have hS : ∀ l : List UInt8, (S l).data.toList = l := fun _ => rfl
  have hN : nmMay [] = true := rfl
  have hZ : ([] : List UInt8).length = 0 := rfl
  try simp only [hS]
  rw [Bool.eq_iff_iff]
  simp [rrMay, rrBody, isName, word, *]
  try grind
 try simp only [sk] at hc2
 refine W.go ?_
 refine CW.cond (vt rfl) (fun hc8 => ?_) (fun hc8 => ?_)
 ·try simp only [sk] at hc8
  refine W.go ?_
  refine CW.cond (vt rfl) (fun hc9 => ?_) (fun hc9 => ?_)
  ·try simp only [sk] at hc9
   refine W.go ?_
   first | refine W.st (vt rfl) (vt rfl) rfl ?_ | refine W.st (u := .string _) (vt rfl) (vt rfl) rfl ?_
   refine W.go ?_
   refine W.q (O.call ⟨rfl, rfl⟩ (AV.cons (vs rfl) (AV.nil)) (fun _ w hw => ref_NameMay _ w (by omega))) ?_
   refine W.go ?_
   refine W.q (O.call ⟨rfl, rfl⟩ (AV.cons (vs rfl) (AV.cons (vt rfl) (AV.nil))) (fun _ w hw => ref_within _ 32 w (by decide))) ?_
   refine W.go ?_
   refine W.q (O.call ⟨rfl, rfl⟩ (AV.cons (vs rfl) (AV.nil)) (fun _ w hw => ref_NameMay _ w (by omega))) ?_
   refine W.go ?_
   refine W.q (O.call ⟨rfl, rfl⟩ (AV.cons (vs rfl) (AV.cons (vt rfl) (AV.nil))) (fun _ w hw => ref_within _ 32 w (by decide))) ?_
   refine W.go ?_
   refine ⟨_, [], (RVs.tmp rfl RVs.nil), List.nil_sublist _, ?_⟩
   refine ⟨congrArg Value.bool ?_, rfl⟩
   have hS : ∀ l : List UInt8, (S l).data.toList = l := fun _ => rfl
   have hN : nmMay [] = true := rfl
   have hZ : ([] : List UInt8).length = 0 := rfl
   try simp only [hS]
   rw [Bool.eq_iff_iff]
   simp [rrMay, rrBody, isName, word, *]
   try grind
  try simp only [sk] at hc9
  refine W.go ?_
  refine CW.cond (vt rfl) (fun hc10 => ?_) (fun hc10 => ?_)
  ·try simp only [sk] at hc10
   refine W.go ?_
   first | refine W.st (vt rfl) (vt rfl) rfl ?_ | refine W.st (u := .string _) (vt rfl) (vt rfl) rfl ?_
   refine W.go ?_
   first | refine W.st (vt rfl) (vt rfl) rfl ?_ | refine W.st (u := .int _ _) (vt rfl) (vt rfl) rfl ?_
   refine W.go ?_
   refine W.q (O.call ⟨rfl, rfl⟩ (AV.cons (vs rfl) (AV.nil)) (fun _ w hw => ref_NameMay _ w (by omega))) ?_
   refine W.go ?_
   refine W.q (O.call ⟨rfl, rfl⟩ (AV.cons (vs rfl) (AV.cons (vt rfl) (AV.nil))) (fun _ w hw => ref_within _ 32 w (by decide))) ?_
   refine W.go ?_
   refine W.q (O.call ⟨rfl, rfl⟩ (AV.cons (vs rfl) (AV.nil)) (fun _ w hw => ref_NameMay _ w (by omega))) ?_
   refine W.go ?_
   refine W.q (O.call ⟨rfl, rfl⟩ (AV.cons (vs rfl) (AV.cons (vt rfl) (AV.nil))) (fun _ w hw => ref_within _ 32 w (by decide))) ?_
   refine W.go ?_
   refine ⟨_, [], (RVs.tmp rfl RVs.nil), List.nil_sublist _, ?_⟩
   refine ⟨congrArg Value.bool ?_, rfl⟩
   have hS : ∀ l : List UInt8, (S l).data.toList = l := fun _ => rfl
   have hN : nmMay [] = true := rfl
   have hZ : ([] : List UInt8).length = 0 := rfl
   try simp only [hS]
   rw [Bool.eq_iff_iff]
   simp [rrMay, rrBody, isName, word, *]
   try grind
  try simp only [sk] at hc10
  refine W.go ?_
  refine CW.cond (vt rfl) (fun hc11 => ?_) (fun hc11 => ?_)
  ·try simp only [sk] at hc11
   refine W.go ?_
   refine CW.cond (vt rfl) (fun hc12 => ?_) (fun hc12 => ?_)
   ·try simp only [sk] at hc12
    refine W.go ?_
    first | refine W.st (vt rfl) (vt rfl) rfl ?_ | refine W.st (u := .string _) (vt rfl) (vt rfl) rfl ?_
    refine W.go ?_
    refine W.q (O.call ⟨rfl, rfl⟩ (AV.cons (vs rfl) (AV.nil)) (fun _ w hw => ref_NameMay _ w (by omega))) ?_
    refine W.go ?_
    refine W.q (O.call ⟨rfl, rfl⟩ (AV.cons (vs rfl) (AV.cons (vt rfl) (AV.nil))) (fun _ w hw => ref_within _ 32 w (by decide))) ?_
    refine W.go ?_
    refine W.q (O.call ⟨rfl, rfl⟩ (AV.cons (vs rfl) (AV.nil)) (fun _ w hw => ref_NameMay _ w (by omega))) ?_
    refine W.go ?_
    refine W.q (O.call ⟨rfl, rfl⟩ (AV.cons (vs rfl) (AV.cons (vt rfl) (AV.nil))) (fun _ w hw => ref_within _ 32 w (by decide))) ?_
    refine W.go ?_
    refine ⟨_, [], (RVs.tmp rfl RVs.nil), List.nil_sublist _, ?_⟩
    refine ⟨congrArg Value.bool ?_, rfl⟩
    have hS : ∀ l : List UInt8, (S l).data.toList = l := fun _ => rfl
    have hN : nmMay [] = true := rfl
    have hZ : ([] : List UInt8).length = 0 := rfl
    try simp only [hS]
    rw [Bool.eq_iff_iff]
    simp [rrMay, rrBody, isName, word, *]
    try grind
   try simp only [sk] at hc12
   refine W.go ?_
   refine ⟨_, [], (RVs.tmp rfl RVs.nil), List.nil_sublist _, ?_⟩
   refine ⟨congrArg Value.bool ?_, rfl⟩
   have hS : ∀ l : List UInt8, (S l).data.toList = l := fun _ => rfl
   have hN : nmMay [] = true := rfl
   have hZ : ([] : List UInt8).length = 0 := rfl
   try simp only [hS]
   rw [Bool.eq_iff_iff]
   simp [rrMay, rrBody, isName, word, *]
   try grind
  try simp only [sk] at hc11
  refine W.go ?_
  refine CW.cond (vt rfl) (fun hc13 => ?_) (fun hc13 => ?_)
  ·try simp only [sk] at hc13
   refine W.go ?_
   first | refine W.st (vt rfl) (vt rfl) rfl ?_ | refine W.st (u := .string _) (vt rfl) (vt rfl) rfl ?_
   refine W.go ?_
   refine W.q (O.call ⟨rfl, rfl⟩ (AV.cons (vs rfl) (AV.nil)) (fun _ w hw => ref_NameMay _ w (by omega))) ?_
   refine W.go ?_
   refine W.q (O.call ⟨rfl, rfl⟩ (AV.cons (vs rfl) (AV.cons (vt rfl) (AV.nil))) (fun _ w hw => ref_within _ 32 w (by decide))) ?_
   refine W.go ?_
   refine W.q (O.call ⟨rfl, rfl⟩ (AV.cons (vs rfl) (AV.nil)) (fun _ w hw => ref_NameMay _ w (by omega))) ?_
   refine W.go ?_
   refine W.q (O.call ⟨rfl, rfl⟩ (AV.cons (vs rfl) (AV.cons (vt rfl) (AV.nil))) (fun _ w hw => ref_within _ 32 w (by decide))) ?_
   refine W.go ?_
   refine ⟨_, [], (RVs.tmp rfl RVs.nil), List.nil_sublist _, ?_⟩
   refine ⟨congrArg Value.bool ?_, rfl⟩
   have hS : ∀ l : List UInt8, (S l).data.toList = l := fun _ => rfl
   have hN : nmMay [] = true := rfl
   have hZ : ([] : List UInt8).length = 0 := rfl
   try simp only [hS]
   rw [Bool.eq_iff_iff]
   simp [rrMay, rrBody, isName, word, *]
   try grind
  try simp only [sk] at hc13
  refine W.go ?_
  refine ⟨_, [], (RVs.tmp rfl RVs.nil), List.nil_sublist _, ?_⟩
  refine ⟨congrArg Value.bool ?_, rfl⟩
  have hS : ∀ l : List UInt8, (S l).data.toList = l := fun _ => rfl
  have hN : nmMay [] = true := rfl
  have hZ : ([] : List UInt8).length = 0 := rfl
  try simp only [hS]
  rw [Bool.eq_iff_iff]
  simp [rrMay, rrBody, isName, word, *]
  try grind
 try simp only [sk] at hc8
 refine W.go ?_
 refine CW.cond (vt rfl) (fun hc14 => ?_) (fun hc14 => ?_)
 ·try simp only [sk] at hc14
  refine W.go ?_
  first | refine W.st (vt rfl) (vt rfl) rfl ?_ | refine W.st (u := .string _) (vt rfl) (vt rfl) rfl ?_
  refine W.go ?_
  refine W.q (O.call ⟨rfl, rfl⟩ (AV.cons (vs rfl) (AV.nil)) (fun _ w hw => ref_NameMay _ w (by omega))) ?_
  refine W.go ?_
  refine W.q (O.call ⟨rfl, rfl⟩ (AV.cons (vs rfl) (AV.cons (vt rfl) (AV.nil))) (fun _ w hw => ref_within _ 32 w (by decide))) ?_
  refine W.go ?_
  refine W.q (O.call ⟨rfl, rfl⟩ (AV.cons (vs rfl) (AV.nil)) (fun _ w hw => ref_NameMay _ w (by omega))) ?_
  refine W.go ?_
  refine W.q (O.call ⟨rfl, rfl⟩ (AV.cons (vs rfl) (AV.cons (vt rfl) (AV.nil))) (fun _ w hw => ref_within _ 32 w (by decide))) ?_
  refine W.go ?_
  refine ⟨_, [], (RVs.tmp rfl RVs.nil), List.nil_sublist _, ?_⟩
  refine ⟨congrArg Value.bool ?_, rfl⟩
  have hS : ∀ l : List UInt8, (S l).data.toList = l := fun _ => rfl
  have hN : nmMay [] = true := rfl
  have hZ : ([] : List UInt8).length = 0 := rfl
  try simp only [hS]
  rw [Bool.eq_iff_iff]
  simp [rrMay, rrBody, isName, word, *]
  try grind
 try simp only [sk] at hc14
 refine W.go ?_
 refine CW.cond (vt rfl) (fun hc15 => ?_) (fun hc15 => ?_)
 ·try simp only [sk] at hc15
  refine W.go ?_
  first | refine W.st (vt rfl) (vt rfl) rfl ?_ | refine W.st (u := .string _) (vt rfl) (vt rfl) rfl ?_
  refine W.go ?_
  first | refine W.st (vt rfl) (vt rfl) rfl ?_ | refine W.st (u := .int _ _) (vt rfl) (vt rfl) rfl ?_
  refine W.go ?_
  refine W.q (O.call ⟨rfl, rfl⟩ (AV.cons (vs rfl) (AV.nil)) (fun _ w hw => ref_NameMay _ w (by omega))) ?_
  refine W.go ?_
  refine W.q (O.call ⟨rfl, rfl⟩ (AV.cons (vs rfl) (AV.cons (vt rfl) (AV.nil))) (fun _ w hw => ref_within _ 32 w (by decide))) ?_
  refine W.go ?_
  refine W.q (O.call ⟨rfl, rfl⟩ (AV.cons (vs rfl) (AV.nil)) (fun _ w hw => ref_NameMay _ w (by omega))) ?_
  refine W.go ?_
  refine W.q (O.call ⟨rfl, rfl⟩ (AV.cons (vs rfl) (AV.cons (vt rfl) (AV.nil))) (fun _ w hw => ref_within _ 32 w (by decide))) ?_
  refine W.go ?_
  refine ⟨_, [], (RVs.tmp rfl RVs.nil), List.nil_sublist _, ?_⟩
  refine ⟨congrArg Value.bool ?_, rfl⟩
  have hS : ∀ l : List UInt8, (S l).data.toList = l := fun _ => rfl
  have hN : nmMay [] = true := rfl
  have hZ : ([] : List UInt8).length = 0 := rfl
  try simp only [hS]
  rw [Bool.eq_iff_iff]
  simp [rrMay, rrBody, isName, word, *]
  try grind
 try simp only [sk] at hc15
 refine W.go ?_
 refine CW.cond (vt rfl) (fun hc16 => ?_) (fun hc16 => ?_)
 ·try simp only [sk] at hc16
  refine W.go ?_
  refine CW.cond (vt rfl) (fun hc17 => ?_) (fun hc17 => ?_)
  ·try simp only [sk] at hc17
   refine W.go ?_
   first | refine W.st (vt rfl) (vt rfl) rfl ?_ | refine W.st (u := .string _) (vt rfl) (vt rfl) rfl ?_
   refine W.go ?_
   refine W.q (O.call ⟨rfl, rfl⟩ (AV.cons (vs rfl) (AV.nil)) (fun _ w hw => ref_NameMay _ w (by omega))) ?_
   refine W.go ?_
   refine W.q (O.call ⟨rfl, rfl⟩ (AV.cons (vs rfl) (AV.cons (vt rfl) (AV.nil))) (fun _ w hw => ref_within _ 32 w (by decide))) ?_
   refine W.go ?_
   refine W.q (O.call ⟨rfl, rfl⟩ (AV.cons (vs rfl) (AV.nil)) (fun _ w hw => ref_NameMay _ w (by omega))) ?_
   refine W.go ?_
   refine W.q (O.call ⟨rfl, rfl⟩ (AV.cons (vs rfl) (AV.cons (vt rfl) (AV.nil))) (fun _ w hw => ref_within _ 32 w (by decide))) ?_
   refine W.go ?_
   refine ⟨_, [], (RVs.tmp rfl RVs.nil), List.nil_sublist _, ?_⟩
   refine ⟨congrArg Value.bool ?_, rfl⟩
   have hS : ∀ l : List UInt8, (S l).data.toList = l := fun _ => rfl
   have hN : nmMay [] = true := rfl
   have hZ : ([] : List UInt8).length = 0 := rfl
   try simp only [hS]
   rw [Bool.eq_iff_iff]
   simp [rrMay, rrBody, isName, word, *]
   try grind
  try simp only [sk] at hc17
  refine W.go ?_
  refine ⟨_, [], (RVs.tmp rfl RVs.nil), List.nil_sublist _, ?_⟩
  refine ⟨congrArg Value.bool ?_, rfl⟩
  have hS : ∀ l : List UInt8, (S l).data.toList = l := fun _ => rfl
  have hN : nmMay [] = true := rfl
  have hZ : ([] : List UInt8).length = 0 := rfl
  try simp only [hS]
  rw [Bool.eq_iff_iff]
  simp [rrMay, rrBody, isName, word, *]
  try grind
 try simp only [sk] at hc16
 refine W.go ?_
 refine CW.cond (vt rfl) (fun hc18 => ?_) (fun hc18 => ?_)
 ·try simp only [sk] at hc18
  refine W.go ?_
  first | refine W.st (vt rfl) (vt rfl) rfl ?_ | refine W.st (u := .string _) (vt rfl) (vt rfl) rfl ?_
  refine W.go ?_
  refine W.q (O.call ⟨rfl, rfl⟩ (AV.cons (vs rfl) (AV.nil)) (fun _ w hw => ref_NameMay _ w (by omega))) ?_
  refine W.go ?_
  refine W.q (O.call ⟨rfl, rfl⟩ (AV.cons (vs rfl) (AV.cons (vt rfl) (AV.nil))) (fun _ w hw => ref_within _ 32 w (by decide))) ?_
  refine W.go ?_
  refine W.q (O.call ⟨rfl, rfl⟩ (AV.cons (vs rfl) (AV.nil)) (fun _ w hw => ref_NameMay _ w (by omega))) ?_
  refine W.go ?_
  refine W.q (O.call ⟨rfl, rfl⟩ (AV.cons (vs rfl) (AV.cons (vt rfl) (AV.nil))) (fun _ w hw => ref_within _ 32 w (by decide))) ?_
  refine W.go ?_
  refine ⟨_, [], (RVs.tmp rfl RVs.nil), List.nil_sublist _, ?_⟩
  refine ⟨congrArg Value.bool ?_, rfl⟩
  have hS : ∀ l : List UInt8, (S l).data.toList = l := fun _ => rfl
  have hN : nmMay [] = true := rfl
  have hZ : ([] : List UInt8).length = 0 := rfl
  try simp only [hS]
  rw [Bool.eq_iff_iff]
  simp [rrMay, rrBody, isName, word, *]
  try grind
 try simp only [sk] at hc18
 refine W.go ?_
 refine ⟨_, [], (RVs.tmp rfl RVs.nil), List.nil_sublist _, ?_⟩
 refine ⟨congrArg Value.bool ?_, rfl⟩
 have hS : ∀ l : List UInt8, (S l).data.toList = l := fun _ => rfl
 have hN : nmMay [] = true := rfl
 have hZ : ([] : List UInt8).length = 0 := rfl
 try simp only [hS]
 rw [Bool.eq_iff_iff]
 simp [rrMay, rrBody, isName, word, *]
 try grind
end Go.Proofs.YtfmdaijkgjkmpaaGreatDoor

set_option linter.unusedVariables false
set_option linter.unusedSimpArgs false
namespace Go.Proofs.YtfmdaijkgjkmpaaGreatDoor
open Go Go.RowKit
set_option maxRecDepth 100000 in
theorem ref_PutRr (at_ : Int) (ks : List Kn) (r : RR) (a : Option Addr) (c : Nat) (w : World) (h : In w a (ks.flatMap encK)) (hn : ks.length ≤ 900000000) (hk : ∀ k ∈ ks, k.name.length ≤ 4398046511104) (h1 : r.name.length ≤ 4398046511104) (h2 : r.target.length ≤ 4398046511104) :
  Fn Tryz.prog 93 [.int .i64 at_, .slice a ks.length c, vR r] w [] fun v L' => ∃ o c' sp, v = .tuple #[.string (S (rrPut at_ ks r).1), .slice (oa o) (rrPut at_ ks r).2.1.length c', .int .i64 (rrPut at_ ks r).2.2] ∧ OwnOk o c' 2 (rrPut at_ ks r).2.1.length (List.length sp) ∧ L' = rowL o 167 (flat encK (rrPut at_ ks r).2.1 sp) := by
 have row := Row.ofE h
 have hX := nmPut_more at_ ks r.name
 have hY := nmPut_more (at_ + (nmPut at_ ks r.name).1.length + 10) (nmPut at_ ks r.name).2.1 r.target
 have hZ := nmPut_more (at_ + (nmPut at_ ks r.name).1.length + 10 + (nmPut (at_ + (nmPut at_ ks r.name).1.length + 10) (nmPut at_ ks r.name).2.1 r.target).1.length) (nmPut (at_ + (nmPut at_ ks r.name).1.length + 10) (nmPut at_ ks r.name).2.1 r.target).2.1 r.target
 have hkX : ∀ k ∈ (nmPut at_ ks r.name).2.1, k.name.length ≤ 4398046511104 := fun k hk' => by rcases hX.2.2 k hk' with h | h; exact hk k h; omega
 have hkY : ∀ k ∈ (nmPut (at_ + (nmPut at_ ks r.name).1.length + 10) (nmPut at_ ks r.name).2.1 r.target).2.1, k.name.length ≤ 4398046511104 := fun k hk' => by rcases hY.2.2 k hk' with h | h; exact hkX k h; omega
 refine Fn.enter Tryz.func93 rfl rfl rfl rfl (Holds.nil w) ?_
 refine W.go ?_
 refine W.bx rfl (vt rfl) rfl fun b1 => ?_
 refine W.go ?_
 refine W.q (O.call ⟨rfl, rfl⟩ (AV.cons (vt rfl) (AV.nil)) (fun _ w hw => ref_RrMay _ w (by omega) (by omega))) ?_
 refine W.go ?_
 refine CW.cond (vt rfl) (fun hc1 => ?_) (fun hc1 => ?_)
 ·try simp only [sk] at hc1
  refine W.go ?_
  refine ⟨_, [], (RVs.tmp rfl (RVs.tmp rfl (RVs.tmp rfl RVs.nil))), List.nil_sublist _, ?_⟩
  rw [rrPut_no hc1]; exact ⟨none, 0, [], rfl, OwnOk.nil, rfl⟩
 try simp only [sk] at hc1
 have hty := may_type hc1
 have htx : r.text.length ≤ 64 := may_text hc1
 refine W.go ?_
 refine W.callN (first := []) (cap := []) rfl (vt rfl) (AV.cons (vt rfl) (AV.cons (vt rfl) (AV.cons (vt rfl) (AV.nil)))) (fun w hu => ref_PutName at_ ks r.name a c w (row.h _ w hu) (by omega) hk h1) ?_; rintro _ _ ⟨o11, c11, sp11, rfl, ok11, rfl⟩; have nk11 := ok11.nk
 refine W.go ?_
 refine CW.cond (vt rfl) (fun hc2 => ?_) (fun hc2 => ?_)
 ·try simp only [sk] at hc2
  refine W.go ?_
  refine ⟨_, [], (RVs.tmp rfl (RVs.tmp rfl (RVs.tmp rfl RVs.nil))), List.nil_sublist _, ?_⟩
  rw [rrPut_bad hc2]; exact ⟨none, 0, [], rfl, OwnOk.nil, rfl⟩
 try simp only [sk] at hc2
 have hr := nmPut_rng hc2
 refine W.go ?_
 refine CW.cond (vt rfl) (fun hc3 => ?_) (fun hc3 => ?_)
 ·try simp only [sk] at hc3
  refine W.go ?_
  refine W.q (O.call ⟨rfl, rfl⟩ (AV.cons (vt rfl) (AV.cons (vt rfl) (AV.nil))) (fun _ w hw => ref_Num _ _ w (by decide) (by decide))) ?_
  refine W.go ?_
  refine CW.draw 21 rfl (by kernel_rfl) ?_
  refine WQ.p O.mv ?_
  first | refine WQ.p O.fb ?_ | refine WQ.p O.fa ?_
  refine WQ.p O.ld ?_
  refine WQ.q (O.call ⟨rfl, rfl⟩ (AV.cons (vt rfl) (AV.cons (vt rfl) (AV.nil))) (fun _ w hw => ref_Num _ _ w (by decide) (by decide))) ?_
  refine WQ.p O.addS ?_
  refine WQ.q (O.call ⟨rfl, rfl⟩ (AV.cons (vt rfl) (AV.cons (vt rfl) (AV.nil))) (fun _ w hw => ref_Num _ _ w (by decide) (by decide))) ?_
  refine WQ.p O.addS ?_
  first | refine WQ.p O.fb ?_ | refine WQ.p O.fa ?_
  refine WQ.p O.ld ?_
  refine WQ.q (O.call ⟨rfl, rfl⟩ (AV.cons (vt rfl) (AV.cons (vt rfl) (AV.nil))) (fun _ w hw => ref_Num _ _ w (by decide) (by decide))) ?_
  refine WQ.p O.addS ?_
  refine WQ.p O.mv ?_
  refine WQ.p O.len ?_
  refine WQ.q (O.call ⟨rfl, rfl⟩ (AV.cons (vt rfl) (AV.cons (vt rfl) (AV.nil))) (fun _ w hw => ref_Num _ _ w (by decide) (by decide))) ?_
  refine WQ.p O.addS ?_
  refine WQ.p O.mv ?_
  refine WQ.p O.addS ?_
  refine WQ.p O.mv ?_
  refine WQ.p O.as ?_
  refine WQ.p O.as ?_
  refine WQ.p O.as ?_
  refine WQ.nil ?_
  refine WL.nil (Q.tn ?_)
  refine CW.ret ?_
  refine ⟨_, rowL o11 167 (flat encK (nmPut at_ ks r.name).2.1 sp11), (RVs.tmp rfl (RVs.tmp rfl (RVs.tmp rfl RVs.nil))), (by repeat (first | exact List.Sublist.refl _ | exact hSub _ | exact List.sublist_append_left _ _ | exact List.nil_sublist _ | refine List.Sublist.append (List.Sublist.refl _) ?_ | apply List.Sublist.cons_cons | apply List.Sublist.cons | exact List.sublist_append_left _ _ | refine List.Sublist.trans ?_ (List.sublist_append_right _ _))), ?_⟩
  rw [rrPut_d hc1 hc2 (dP_1 hc3)]; exact ⟨o11, c11, sp11, rfl, ok11, rfl⟩
 try simp only [sk] at hc3
 refine W.go ?_
 refine CW.cond (vt rfl) (fun hc4 => ?_) (fun hc4 => ?_)
 ·try simp only [sk] at hc4
  refine W.go ?_
  refine CW.cond (vt rfl) (fun hc5 => ?_) (fun hc5 => ?_)
  ·try simp only [sk] at hc5
   refine W.go ?_
   refine W.callN (first := []) (cap := []) rfl (vt rfl) (AV.cons (vt rfl) (AV.cons (vt rfl) (AV.cons (vt rfl) (AV.nil)))) (fun w hu => ref_PutName (at_ + (nmPut at_ ks r.name).1.length + 10) (nmPut at_ ks r.name).2.1 r.target _ _ w (RowL.h _ hu) (by omega) hkX h2) ?_; rintro _ _ ⟨o12, c12, sp12, rfl, ok12, rfl⟩; have nk12 := ok12.nk
   refine W.go ?_
   refine CW.cond (vt rfl) (fun hc6 => ?_) (fun hc6 => ?_)
   ·exfalso; simp [hc4] at hc6
   try simp only [sk] at hc6
   refine W.go ?_
   refine CW.cond (vt rfl) (fun hc7 => ?_) (fun hc7 => ?_)
   ·try simp only [sk] at hc7
    refine W.go ?_
    refine ⟨_, [], (RVs.tmp rfl (RVs.tmp rfl (RVs.tmp rfl RVs.nil))), List.nil_sublist _, ?_⟩
    first | (exfalso; omega) | (rw [rrPut_n hc1 hc2 (dP_6a (by omega) hc7)]; exact ⟨none, 0, [], rfl, OwnOk.nil, rfl⟩) | (rw [rrPut_n hc1 hc2 ((dP_n (by omega)).trans (if_neg hc7))]; exact ⟨none, 0, [], rfl, OwnOk.nil, rfl⟩)
   try simp only [sk] at hc7
   refine W.go ?_
   refine CW.draw 21 rfl (by kernel_rfl) ?_
   refine WQ.p O.mv ?_
   first | refine WQ.p O.fb ?_ | refine WQ.p O.fa ?_
   refine WQ.p O.ld ?_
   refine WQ.q (O.call ⟨rfl, rfl⟩ (AV.cons (vt rfl) (AV.cons (vt rfl) (AV.nil))) (fun _ w hw => ref_Num _ _ w (by decide) (by decide))) ?_
   refine WQ.p O.addS ?_
   refine WQ.q (O.call ⟨rfl, rfl⟩ (AV.cons (vt rfl) (AV.cons (vt rfl) (AV.nil))) (fun _ w hw => ref_Num _ _ w (by decide) (by decide))) ?_
   refine WQ.p O.addS ?_
   first | refine WQ.p O.fb ?_ | refine WQ.p O.fa ?_
   refine WQ.p O.ld ?_
   refine WQ.q (O.call ⟨rfl, rfl⟩ (AV.cons (vt rfl) (AV.cons (vt rfl) (AV.nil))) (fun _ w hw => ref_Num _ _ w (by decide) (by decide))) ?_
   refine WQ.p O.addS ?_
   refine WQ.p O.mv ?_
   refine WQ.p O.len ?_
   refine WQ.q (O.call ⟨rfl, rfl⟩ (AV.cons (vt rfl) (AV.cons (vt rfl) (AV.nil))) (fun _ w hw => ref_Num _ _ w (by decide) (by decide))) ?_
   refine WQ.p O.addS ?_
   refine WQ.p O.mv ?_
   refine WQ.p O.addS ?_
   refine WQ.p O.mv ?_
   refine WQ.p O.as ?_
   refine WQ.p O.as ?_
   refine WQ.p O.as ?_
   refine WQ.nil ?_
   refine WL.nil (Q.tn ?_)
   refine CW.ret ?_
   refine ⟨_, rowL o12 167 (flat encK (nmPut (at_ + (nmPut at_ ks r.name).1.length + 10) (nmPut at_ ks r.name).2.1 r.target).2.1 sp12), (RVs.tmp rfl (RVs.tmp rfl (RVs.tmp rfl RVs.nil))), (by repeat (first | exact List.Sublist.refl _ | exact hSub _ | exact List.sublist_append_left _ _ | exact List.nil_sublist _ | refine List.Sublist.append (List.Sublist.refl _) ?_ | apply List.Sublist.cons_cons | apply List.Sublist.cons | exact List.sublist_append_left _ _ | refine List.Sublist.trans ?_ (List.sublist_append_right _ _))), ?_⟩
   first | (exfalso; omega) | (rw [rrPut_d hc1 hc2 ((dP_n (by omega)).trans (if_pos hc7))]; exact ⟨o12, c12, sp12, rfl, ok12, rfl⟩)
  exfalso; simp [hc4] at hc5
 try simp only [sk] at hc4
 refine W.go ?_
 refine CW.cond (vt rfl) (fun hc8 => ?_) (fun hc8 => ?_)
 ·try simp only [sk] at hc8
  refine W.go ?_
  refine CW.cond (vt rfl) (fun hc9 => ?_) (fun hc9 => ?_)
  ·try simp only [sk] at hc9
   refine W.go ?_
   refine W.callN (first := []) (cap := []) rfl (vt rfl) (AV.cons (vt rfl) (AV.cons (vt rfl) (AV.cons (vt rfl) (AV.nil)))) (fun w hu => ref_PutName (at_ + (nmPut at_ ks r.name).1.length + 10) (nmPut at_ ks r.name).2.1 r.target _ _ w (RowL.h _ hu) (by omega) hkX h2) ?_; rintro _ _ ⟨o12, c12, sp12, rfl, ok12, rfl⟩; have nk12 := ok12.nk
   refine W.go ?_
   refine CW.cond (vt rfl) (fun hc10 => ?_) (fun hc10 => ?_)
   ·exfalso; simp [hc8] at hc10
   try simp only [sk] at hc10
   refine W.go ?_
   refine CW.cond (vt rfl) (fun hc11 => ?_) (fun hc11 => ?_)
   ·try simp only [sk] at hc11
    refine W.go ?_
    refine ⟨_, [], (RVs.tmp rfl (RVs.tmp rfl (RVs.tmp rfl RVs.nil))), List.nil_sublist _, ?_⟩
    first | (exfalso; omega) | (rw [rrPut_n hc1 hc2 (dP_6a (by omega) hc11)]; exact ⟨none, 0, [], rfl, OwnOk.nil, rfl⟩) | (rw [rrPut_n hc1 hc2 ((dP_n (by omega)).trans (if_neg hc11))]; exact ⟨none, 0, [], rfl, OwnOk.nil, rfl⟩)
   try simp only [sk] at hc11
   refine W.go ?_
   refine CW.draw 21 rfl (by kernel_rfl) ?_
   refine WQ.p O.mv ?_
   first | refine WQ.p O.fb ?_ | refine WQ.p O.fa ?_
   refine WQ.p O.ld ?_
   refine WQ.q (O.call ⟨rfl, rfl⟩ (AV.cons (vt rfl) (AV.cons (vt rfl) (AV.nil))) (fun _ w hw => ref_Num _ _ w (by decide) (by decide))) ?_
   refine WQ.p O.addS ?_
   refine WQ.q (O.call ⟨rfl, rfl⟩ (AV.cons (vt rfl) (AV.cons (vt rfl) (AV.nil))) (fun _ w hw => ref_Num _ _ w (by decide) (by decide))) ?_
   refine WQ.p O.addS ?_
   first | refine WQ.p O.fb ?_ | refine WQ.p O.fa ?_
   refine WQ.p O.ld ?_
   refine WQ.q (O.call ⟨rfl, rfl⟩ (AV.cons (vt rfl) (AV.cons (vt rfl) (AV.nil))) (fun _ w hw => ref_Num _ _ w (by decide) (by decide))) ?_
   refine WQ.p O.addS ?_
   refine WQ.p O.mv ?_
   refine WQ.p O.len ?_
   refine WQ.q (O.call ⟨rfl, rfl⟩ (AV.cons (vt rfl) (AV.cons (vt rfl) (AV.nil))) (fun _ w hw => ref_Num _ _ w (by decide) (by decide))) ?_
   refine WQ.p O.addS ?_
   refine WQ.p O.mv ?_
   refine WQ.p O.addS ?_
   refine WQ.p O.mv ?_
   refine WQ.p O.as ?_
   refine WQ.p O.as ?_
   refine WQ.p O.as ?_
   refine WQ.nil ?_
   refine WL.nil (Q.tn ?_)
   refine CW.ret ?_
   refine ⟨_, rowL o12 167 (flat encK (nmPut (at_ + (nmPut at_ ks r.name).1.length + 10) (nmPut at_ ks r.name).2.1 r.target).2.1 sp12), (RVs.tmp rfl (RVs.tmp rfl (RVs.tmp rfl RVs.nil))), (by repeat (first | exact List.Sublist.refl _ | exact hSub _ | exact List.sublist_append_left _ _ | exact List.nil_sublist _ | refine List.Sublist.append (List.Sublist.refl _) ?_ | apply List.Sublist.cons_cons | apply List.Sublist.cons | exact List.sublist_append_left _ _ | refine List.Sublist.trans ?_ (List.sublist_append_right _ _))), ?_⟩
   first | (exfalso; omega) | (rw [rrPut_d hc1 hc2 ((dP_n (by omega)).trans (if_pos hc11))]; exact ⟨o12, c12, sp12, rfl, ok12, rfl⟩)
  exfalso; simp [hc8] at hc9
 try simp only [sk] at hc8
 refine W.go ?_
 refine CW.cond (vt rfl) (fun hc12 => ?_) (fun hc12 => ?_)
 ·try simp only [sk] at hc12
  refine W.go ?_
  refine CW.cond (vt rfl) (fun hc13 => ?_) (fun hc13 => ?_)
  ·try simp only [sk] at hc13
   refine W.go ?_
   refine W.callN (first := []) (cap := []) rfl (vt rfl) (AV.cons (vt rfl) (AV.cons (vt rfl) (AV.cons (vt rfl) (AV.nil)))) (fun w hu => ref_PutName (at_ + (nmPut at_ ks r.name).1.length + 10) (nmPut at_ ks r.name).2.1 r.target _ _ w (RowL.h _ hu) (by omega) hkX h2) ?_; rintro _ _ ⟨o12, c12, sp12, rfl, ok12, rfl⟩; have nk12 := ok12.nk
   refine W.go ?_
   refine CW.cond (vt rfl) (fun hc14 => ?_) (fun hc14 => ?_)
   ·exfalso; simp [hc12] at hc14
   try simp only [sk] at hc14
   refine W.go ?_
   refine CW.cond (vt rfl) (fun hc15 => ?_) (fun hc15 => ?_)
   ·try simp only [sk] at hc15
    refine W.go ?_
    refine ⟨_, [], (RVs.tmp rfl (RVs.tmp rfl (RVs.tmp rfl RVs.nil))), List.nil_sublist _, ?_⟩
    first | (exfalso; omega) | (rw [rrPut_n hc1 hc2 (dP_6a (by omega) hc15)]; exact ⟨none, 0, [], rfl, OwnOk.nil, rfl⟩) | (rw [rrPut_n hc1 hc2 ((dP_n (by omega)).trans (if_neg hc15))]; exact ⟨none, 0, [], rfl, OwnOk.nil, rfl⟩)
   try simp only [sk] at hc15
   refine W.go ?_
   refine CW.draw 21 rfl (by kernel_rfl) ?_
   refine WQ.p O.mv ?_
   first | refine WQ.p O.fb ?_ | refine WQ.p O.fa ?_
   refine WQ.p O.ld ?_
   refine WQ.q (O.call ⟨rfl, rfl⟩ (AV.cons (vt rfl) (AV.cons (vt rfl) (AV.nil))) (fun _ w hw => ref_Num _ _ w (by decide) (by decide))) ?_
   refine WQ.p O.addS ?_
   refine WQ.q (O.call ⟨rfl, rfl⟩ (AV.cons (vt rfl) (AV.cons (vt rfl) (AV.nil))) (fun _ w hw => ref_Num _ _ w (by decide) (by decide))) ?_
   refine WQ.p O.addS ?_
   first | refine WQ.p O.fb ?_ | refine WQ.p O.fa ?_
   refine WQ.p O.ld ?_
   refine WQ.q (O.call ⟨rfl, rfl⟩ (AV.cons (vt rfl) (AV.cons (vt rfl) (AV.nil))) (fun _ w hw => ref_Num _ _ w (by decide) (by decide))) ?_
   refine WQ.p O.addS ?_
   refine WQ.p O.mv ?_
   refine WQ.p O.len ?_
   refine WQ.q (O.call ⟨rfl, rfl⟩ (AV.cons (vt rfl) (AV.cons (vt rfl) (AV.nil))) (fun _ w hw => ref_Num _ _ w (by decide) (by decide))) ?_
   refine WQ.p O.addS ?_
   refine WQ.p O.mv ?_
   refine WQ.p O.addS ?_
   refine WQ.p O.mv ?_
   refine WQ.p O.as ?_
   refine WQ.p O.as ?_
   refine WQ.p O.as ?_
   refine WQ.nil ?_
   refine WL.nil (Q.tn ?_)
   refine CW.ret ?_
   refine ⟨_, rowL o12 167 (flat encK (nmPut (at_ + (nmPut at_ ks r.name).1.length + 10) (nmPut at_ ks r.name).2.1 r.target).2.1 sp12), (RVs.tmp rfl (RVs.tmp rfl (RVs.tmp rfl RVs.nil))), (by repeat (first | exact List.Sublist.refl _ | exact hSub _ | exact List.sublist_append_left _ _ | exact List.nil_sublist _ | refine List.Sublist.append (List.Sublist.refl _) ?_ | apply List.Sublist.cons_cons | apply List.Sublist.cons | exact List.sublist_append_left _ _ | refine List.Sublist.trans ?_ (List.sublist_append_right _ _))), ?_⟩
   first | (exfalso; omega) | (rw [rrPut_d hc1 hc2 ((dP_n (by omega)).trans (if_pos hc15))]; exact ⟨o12, c12, sp12, rfl, ok12, rfl⟩)
  exfalso; simp [hc12] at hc13
 try simp only [sk] at hc12
 refine W.go ?_
 refine CW.cond (vt rfl) (fun hc16 => ?_) (fun hc16 => ?_)
 ·try simp only [sk] at hc16
  refine W.go ?_
  refine W.callN (first := []) (cap := []) rfl (vt rfl) (AV.cons (vt rfl) (AV.cons (vt rfl) (AV.cons (vt rfl) (AV.nil)))) (fun w hu => ref_PutName (at_ + (nmPut at_ ks r.name).1.length + 10) (nmPut at_ ks r.name).2.1 r.target _ _ w (RowL.h _ hu) (by omega) hkX h2) ?_; rintro _ _ ⟨o12, c12, sp12, rfl, ok12, rfl⟩; have nk12 := ok12.nk
  refine W.go ?_
  refine CW.cond (vt rfl) (fun hc17 => ?_) (fun hc17 => ?_)
  ·try simp only [sk] at hc17
   refine W.go ?_
   refine W.callN (first := []) (cap := []) rfl (vt rfl) (AV.cons (vt rfl) (AV.cons (vt rfl) (AV.cons (vt rfl) (AV.nil)))) (fun w hu => ref_PutName (at_ + (nmPut at_ ks r.name).1.length + 10 + (nmPut (at_ + (nmPut at_ ks r.name).1.length + 10) (nmPut at_ ks r.name).2.1 r.target).1.length) (nmPut (at_ + (nmPut at_ ks r.name).1.length + 10) (nmPut at_ ks r.name).2.1 r.target).2.1 r.target _ _ w (RowL.h _ hu) (by omega) hkY h2) ?_; rintro _ _ ⟨o13, c13, sp13, rfl, ok13, rfl⟩; have nk13 := ok13.nk
   refine W.go ?_
   refine W.q (O.call ⟨rfl, rfl⟩ (AV.cons (vt rfl) (AV.cons (vt rfl) (AV.nil))) (fun _ w hw => ref_Num _ _ w (by decide) (by decide))) ?_
   refine W.go ?_
   refine W.q (O.call ⟨rfl, rfl⟩ (AV.cons (vt rfl) (AV.cons (vt rfl) (AV.nil))) (fun _ w hw => ref_Num _ _ w (by decide) (by decide))) ?_
   refine W.go ?_
   refine W.q (O.call ⟨rfl, rfl⟩ (AV.cons (vt rfl) (AV.cons (vt rfl) (AV.nil))) (fun _ w hw => ref_Num _ _ w (by decide) (by decide))) ?_
   refine W.go ?_
   refine W.q (O.call ⟨rfl, rfl⟩ (AV.cons (vt rfl) (AV.cons (vt rfl) (AV.nil))) (fun _ w hw => ref_Num _ _ w (by decide) (by decide))) ?_
   refine W.go ?_
   refine W.q (O.call ⟨rfl, rfl⟩ (AV.cons (vt rfl) (AV.cons (vt rfl) (AV.nil))) (fun _ w hw => ref_Num _ _ w (by decide) (by decide))) ?_
   refine W.go ?_
   refine CW.cond (vt rfl) (fun hc18 => ?_) (fun hc18 => ?_)
   ·try simp only [sk] at hc18
    refine W.go ?_
    refine ⟨_, [], (RVs.tmp rfl (RVs.tmp rfl (RVs.tmp rfl RVs.nil))), List.nil_sublist _, ?_⟩
    first | (exfalso; omega) | (rw [rrPut_n hc1 hc2 (dP_6b hc17.2 hc17.1 hc18)]; exact ⟨none, 0, [], rfl, OwnOk.nil, rfl⟩)
   try simp only [sk] at hc18
   refine W.go ?_
   refine CW.draw 21 rfl (by kernel_rfl) ?_
   refine WQ.p O.mv ?_
   first | refine WQ.p O.fb ?_ | refine WQ.p O.fa ?_
   refine WQ.p O.ld ?_
   refine WQ.q (O.call ⟨rfl, rfl⟩ (AV.cons (vt rfl) (AV.cons (vt rfl) (AV.nil))) (fun _ w hw => ref_Num _ _ w (by decide) (by decide))) ?_
   refine WQ.p O.addS ?_
   refine WQ.q (O.call ⟨rfl, rfl⟩ (AV.cons (vt rfl) (AV.cons (vt rfl) (AV.nil))) (fun _ w hw => ref_Num _ _ w (by decide) (by decide))) ?_
   refine WQ.p O.addS ?_
   first | refine WQ.p O.fb ?_ | refine WQ.p O.fa ?_
   refine WQ.p O.ld ?_
   refine WQ.q (O.call ⟨rfl, rfl⟩ (AV.cons (vt rfl) (AV.cons (vt rfl) (AV.nil))) (fun _ w hw => ref_Num _ _ w (by decide) (by decide))) ?_
   refine WQ.p O.addS ?_
   refine WQ.p O.mv ?_
   refine WQ.p O.len ?_
   refine WQ.q (O.call ⟨rfl, rfl⟩ (AV.cons (vt rfl) (AV.cons (vt rfl) (AV.nil))) (fun _ w hw => ref_Num _ _ w (by decide) (by decide))) ?_
   refine WQ.p O.addS ?_
   refine WQ.p O.mv ?_
   refine WQ.p O.addS ?_
   refine WQ.p O.mv ?_
   refine WQ.p O.as ?_
   refine WQ.p O.as ?_
   refine WQ.p O.as ?_
   refine WQ.nil ?_
   refine WL.nil (Q.tn ?_)
   refine CW.ret ?_
   refine ⟨_, rowL o13 167 (flat encK (nmPut (at_ + (nmPut at_ ks r.name).1.length + 10 + (nmPut (at_ + (nmPut at_ ks r.name).1.length + 10) (nmPut at_ ks r.name).2.1 r.target).1.length) (nmPut (at_ + (nmPut at_ ks r.name).1.length + 10) (nmPut at_ ks r.name).2.1 r.target).2.1 r.target).2.1 sp13), (RVs.tmp rfl (RVs.tmp rfl (RVs.tmp rfl RVs.nil))), (by repeat (first | exact List.Sublist.refl _ | exact hSub _ | exact List.sublist_append_left _ _ | exact List.nil_sublist _ | refine List.Sublist.append (List.Sublist.refl _) ?_ | apply List.Sublist.cons_cons | apply List.Sublist.cons | exact List.sublist_append_left _ _ | refine List.Sublist.trans ?_ (List.sublist_append_right _ _))), ?_⟩
   first | (exfalso; omega) | (rw [rrPut_d hc1 hc2 (dP_6 hc17.2 hc17.1 hc18)]; exact ⟨o13, c13, sp13, by simp [soaTail, oneOr], ok13, rfl⟩)
  try simp only [sk] at hc17
  refine W.go ?_
  refine CW.cond (vt rfl) (fun hc19 => ?_) (fun hc19 => ?_)
  ·try simp only [sk] at hc19
   refine W.go ?_
   refine ⟨_, [], (RVs.tmp rfl (RVs.tmp rfl (RVs.tmp rfl RVs.nil))), List.nil_sublist _, ?_⟩
   first | (exfalso; omega) | (rw [rrPut_n hc1 hc2 (dP_6a (by omega) hc19)]; exact ⟨none, 0, [], rfl, OwnOk.nil, rfl⟩) | (rw [rrPut_n hc1 hc2 ((dP_n (by omega)).trans (if_neg hc19))]; exact ⟨none, 0, [], rfl, OwnOk.nil, rfl⟩)
  try simp only [sk] at hc19
  refine W.go ?_
  refine CW.draw 21 rfl (by kernel_rfl) ?_
  refine WQ.p O.mv ?_
  first | refine WQ.p O.fb ?_ | refine WQ.p O.fa ?_
  refine WQ.p O.ld ?_
  refine WQ.q (O.call ⟨rfl, rfl⟩ (AV.cons (vt rfl) (AV.cons (vt rfl) (AV.nil))) (fun _ w hw => ref_Num _ _ w (by decide) (by decide))) ?_
  refine WQ.p O.addS ?_
  refine WQ.q (O.call ⟨rfl, rfl⟩ (AV.cons (vt rfl) (AV.cons (vt rfl) (AV.nil))) (fun _ w hw => ref_Num _ _ w (by decide) (by decide))) ?_
  refine WQ.p O.addS ?_
  first | refine WQ.p O.fb ?_ | refine WQ.p O.fa ?_
  refine WQ.p O.ld ?_
  refine WQ.q (O.call ⟨rfl, rfl⟩ (AV.cons (vt rfl) (AV.cons (vt rfl) (AV.nil))) (fun _ w hw => ref_Num _ _ w (by decide) (by decide))) ?_
  refine WQ.p O.addS ?_
  refine WQ.p O.mv ?_
  refine WQ.p O.len ?_
  refine WQ.q (O.call ⟨rfl, rfl⟩ (AV.cons (vt rfl) (AV.cons (vt rfl) (AV.nil))) (fun _ w hw => ref_Num _ _ w (by decide) (by decide))) ?_
  refine WQ.p O.addS ?_
  refine WQ.p O.mv ?_
  refine WQ.p O.addS ?_
  refine WQ.p O.mv ?_
  refine WQ.p O.as ?_
  refine WQ.p O.as ?_
  refine WQ.p O.as ?_
  refine WQ.nil ?_
  refine WL.nil (Q.tn ?_)
  refine CW.ret ?_
  refine ⟨_, rowL o12 167 (flat encK (nmPut (at_ + (nmPut at_ ks r.name).1.length + 10) (nmPut at_ ks r.name).2.1 r.target).2.1 sp12), (RVs.tmp rfl (RVs.tmp rfl (RVs.tmp rfl RVs.nil))), (by repeat (first | exact List.Sublist.refl _ | exact hSub _ | exact List.sublist_append_left _ _ | exact List.nil_sublist _ | refine List.Sublist.append (List.Sublist.refl _) ?_ | apply List.Sublist.cons_cons | apply List.Sublist.cons | exact List.sublist_append_left _ _ | refine List.Sublist.trans ?_ (List.sublist_append_right _ _))), ?_⟩
  first | (exfalso; omega) | (rw [rrPut_d hc1 hc2 ((dP_n (by omega)).trans (if_pos hc19))]; exact ⟨o12, c12, sp12, rfl, ok12, rfl⟩)
 try simp only [sk] at hc16
 refine W.go ?_
 refine CW.cond (vt rfl) (fun hc20 => ?_) (fun hc20 => ?_)
 ·try simp only [sk] at hc20
  refine CW.draw 8 rfl (by kernel_rfl) ?_
  first | refine WQ.p O.fb ?_ | refine WQ.p O.fa ?_
  refine WQ.p O.ld ?_
  refine WQ.p O.len ?_
  refine WQ.q (O.call ⟨rfl, rfl⟩ (AV.cons (vt rfl) (AV.cons (vt rfl) (AV.nil))) (fun _ w hw => ref_Num _ _ w (by decide) (by decide))) ?_
  first | refine WQ.p O.fb ?_ | refine WQ.p O.fa ?_
  refine WQ.p O.ld ?_
  refine WQ.p O.addS ?_
  refine WQ.p O.as ?_
  refine WQ.nil ?_
  refine WL.nil (Q.bn (Q.tn ?_))
  refine CW.seq ?_
  refine CW.draw 21 rfl (by kernel_rfl) ?_
  refine WQ.p O.mv ?_
  first | refine WQ.p O.fb ?_ | refine WQ.p O.fa ?_
  refine WQ.p O.ld ?_
  refine WQ.q (O.call ⟨rfl, rfl⟩ (AV.cons (vt rfl) (AV.cons (vt rfl) (AV.nil))) (fun _ w hw => ref_Num _ _ w (by decide) (by decide))) ?_
  refine WQ.p O.addS ?_
  refine WQ.q (O.call ⟨rfl, rfl⟩ (AV.cons (vt rfl) (AV.cons (vt rfl) (AV.nil))) (fun _ w hw => ref_Num _ _ w (by decide) (by decide))) ?_
  refine WQ.p O.addS ?_
  first | refine WQ.p O.fb ?_ | refine WQ.p O.fa ?_
  refine WQ.p O.ld ?_
  refine WQ.q (O.call ⟨rfl, rfl⟩ (AV.cons (vt rfl) (AV.cons (vt rfl) (AV.nil))) (fun _ w hw => ref_Num _ _ w (by decide) (by decide))) ?_
  refine WQ.p O.addS ?_
  refine WQ.p O.mv ?_
  refine WQ.p O.len ?_
  refine WQ.q (O.call ⟨rfl, rfl⟩ (AV.cons (vt rfl) (AV.cons (vt rfl) (AV.nil))) (fun _ w hw => ref_Num _ _ w (by decide) (by decide))) ?_
  refine WQ.p O.addS ?_
  refine WQ.p O.mv ?_
  refine WQ.p O.addS ?_
  refine WQ.p O.mv ?_
  refine WQ.p O.as ?_
  refine WQ.p O.as ?_
  refine WQ.p O.as ?_
  refine WQ.nil ?_
  refine WL.nil (Q.tn ?_)
  refine CW.ret ?_
  refine ⟨_, rowL o11 167 (flat encK (nmPut at_ ks r.name).2.1 sp11), (RVs.tmp rfl (RVs.tmp rfl (RVs.tmp rfl RVs.nil))), (by repeat (first | exact List.Sublist.refl _ | exact hSub _ | exact List.sublist_append_left _ _ | exact List.nil_sublist _ | refine List.Sublist.append (List.Sublist.refl _) ?_ | apply List.Sublist.cons_cons | apply List.Sublist.cons | exact List.sublist_append_left _ _ | refine List.Sublist.trans ?_ (List.sublist_append_right _ _))), ?_⟩
  first | (exfalso; omega) | (rw [rrPut_d hc1 hc2 (dP_16 (by omega))]; exact ⟨o11, c11, sp11, by simp [oneOr, beb_1, byteOf_nat], ok11, rfl⟩)
 try simp only [sk] at hc20
 refine W.go ?_
 refine CW.draw 21 rfl (by kernel_rfl) ?_
 refine WQ.p O.mv ?_
 first | refine WQ.p O.fb ?_ | refine WQ.p O.fa ?_
 refine WQ.p O.ld ?_
 refine WQ.q (O.call ⟨rfl, rfl⟩ (AV.cons (vt rfl) (AV.cons (vt rfl) (AV.nil))) (fun _ w hw => ref_Num _ _ w (by decide) (by decide))) ?_
 refine WQ.p O.addS ?_
 refine WQ.q (O.call ⟨rfl, rfl⟩ (AV.cons (vt rfl) (AV.cons (vt rfl) (AV.nil))) (fun _ w hw => ref_Num _ _ w (by decide) (by decide))) ?_
 refine WQ.p O.addS ?_
 first | refine WQ.p O.fb ?_ | refine WQ.p O.fa ?_
 refine WQ.p O.ld ?_
 refine WQ.q (O.call ⟨rfl, rfl⟩ (AV.cons (vt rfl) (AV.cons (vt rfl) (AV.nil))) (fun _ w hw => ref_Num _ _ w (by decide) (by decide))) ?_
 refine WQ.p O.addS ?_
 refine WQ.p O.mv ?_
 refine WQ.p O.len ?_
 refine WQ.q (O.call ⟨rfl, rfl⟩ (AV.cons (vt rfl) (AV.cons (vt rfl) (AV.nil))) (fun _ w hw => ref_Num _ _ w (by decide) (by decide))) ?_
 refine WQ.p O.addS ?_
 refine WQ.p O.mv ?_
 refine WQ.p O.addS ?_
 refine WQ.p O.mv ?_
 refine WQ.p O.as ?_
 refine WQ.p O.as ?_
 refine WQ.p O.as ?_
 refine WQ.nil ?_
 refine WL.nil (Q.tn ?_)
 refine CW.ret ?_
 refine ⟨_, rowL o11 167 (flat encK (nmPut at_ ks r.name).2.1 sp11), (RVs.tmp rfl (RVs.tmp rfl (RVs.tmp rfl RVs.nil))), (by repeat (first | exact List.Sublist.refl _ | exact hSub _ | exact List.sublist_append_left _ _ | exact List.nil_sublist _ | refine List.Sublist.append (List.Sublist.refl _) ?_ | apply List.Sublist.cons_cons | apply List.Sublist.cons | exact List.sublist_append_left _ _ | refine List.Sublist.trans ?_ (List.sublist_append_right _ _))), ?_⟩
 first | (exfalso; omega) | (rw [rrPut_d hc1 hc2 (dP_49 (by omega))]; exact ⟨o11, c11, sp11, rfl, ok11, rfl⟩)
end Go.Proofs.YtfmdaijkgjkmpaaGreatDoor

set_option linter.unusedVariables false
set_option linter.unusedSimpArgs false
namespace Go.Proofs.YtfmdaijkgjkmpaaGreatDoor
open Go Go.RowKit
theorem na2 {a b c : Prop} (h : (¬a ∨ ¬b) ∨ c) : ¬(a ∧ b) ∨ c := by
 rcases h with (h | h) | h
 ·exact .inl fun x => h x.1
 ·exact .inl fun x => h x.2
 ·exact .inr h
theorem na5 {a b c d e f : Prop} (h : ((((¬a ∨ ¬b) ∨ ¬c) ∨ ¬d) ∨ ¬e) ∨ f) : ¬((((a ∧ b) ∧ c) ∧ d) ∧ e) ∨ f := by
 rcases h with ((((h | h) | h) | h) | h) | h
 ·exact .inl fun x => h x.1.1.1.1
 ·exact .inl fun x => h x.1.1.1.2
 ·exact .inl fun x => h x.1.1.2
 ·exact .inl fun x => h x.1.2
 ·exact .inl fun x => h x.2
 ·exact .inr h
set_option maxRecDepth 100000 in
set_option maxHeartbeats 1000000 in
theorem ref_GetRr (s : List UInt8) (p : Int) (w : World) (hs : s.length ≤ 4398046511104) : Fn Tryz.prog 88 [.string (S s), .int .i64 p] w [] fun v L' => v = .tuple #[vR (rrGet s p).1, .int .i64 (rrGet s p).2.1, .int .i64 (rrGet s p).2.2] ∧ L' = [] := by
 have hnl := grN_len s p
 have hT0 : 0 ≤ (grT (getName s p)) ∧ (grT (getName s p)) ≤ s.length := by cases hg : getName s p with | err e => exact ⟨Int.le_refl 0, by show (0 : Int) ≤ _; omega⟩ | ok nm to => have := getName_rng hg; exact ⟨by show 0 ≤ to; omega, this.2.2⟩
 have hgt : ∀ (E q : Int), 0 ≤ grT (getName (s.take E.toNat) q) ∧ grT (getName (s.take E.toNat) q) ≤ 4398046511104 := fun E q => by cases hg : getName (s.take E.toNat) q with | err e => exact ⟨Int.le_refl 0, by show (0 : Int) ≤ _; decide⟩ | ok nm to => have := getName_rng hg; rw [List.length_take] at this; exact ⟨by show 0 ≤ to; omega, by show to ≤ _; omega⟩
 have hst : soaTail.length = 16 := rfl
 refine Fn.enter Tryz.func88 rfl rfl rfl rfl (Holds.nil w) ?_
 refine W.go ?_
 refine W.al rfl rfl fun b1 => ?_
 refine W.go ?_
 refine W.q (O.call ⟨rfl, rfl⟩ (AV.cons (vt rfl) (AV.cons (vt rfl) (AV.nil))) (fun _ w hw => ref_GetName _ _ w (by first | exact hs | (rw [List.length_take]; omega)))) ?_
 refine W.go ?_
 refine CW.cond (vt rfl) (fun hc1 => ?_) (fun hc1 => ?_)
 ·try simp only [sk] at hc1
  refine W.go ?_
  refine W.p (O.bd (hv := PV.nil)) ?_
  refine W.st (vt rfl) (vt rfl) rfl ?_
  refine W.go ?_
  refine ⟨_, [], (RVs.cell rfl (RVs.tmp rfl (RVs.tmp rfl RVs.nil))), List.nil_sublist _, ?_⟩
  refine ⟨?_, rfl⟩
  rw [show rrGet s p = (noR, 0, 400) by rcases hc1 with h | h; exact rrGet_bad1 h; exact rrGet_bad2 (by omega)]; rfl
 try simp only [sk] at hc1
 have hz := sizeG_rng (s := s) (to := (grT (getName s p))) hT0.1 (by omega)
 have hz : 0 ≤ (numI (slc s ((grT (getName s p)) + 8) ((grT (getName s p)) + 10))) ∧ (numI (slc s ((grT (getName s p)) + 8) ((grT (getName s p)) + 10))) < 65536 := hz
 refine W.go ?_
 refine W.q (O.call ⟨rfl, rfl⟩ (AV.cons (vt rfl) (AV.cons (vt rfl) (AV.cons (vt rfl) (AV.nil)))) (fun _ w hw => ref_GetBeI s (grT (getName s p)) 2 ((grT (getName s p)) + 2) w (by omega) (by decide) (by omega) (by omega) (by omega))) ?_
 refine W.go ?_
 refine W.q (O.call ⟨rfl, rfl⟩ (AV.cons (vt rfl) (AV.cons (vt rfl) (AV.cons (vt rfl) (AV.nil)))) (fun _ w hw => ref_GetBeI s ((grT (getName s p)) + 2) 2 ((grT (getName s p)) + 4) w (by omega) (by decide) (by omega) (by omega) (by omega))) ?_
 refine W.go ?_
 refine W.q (O.call ⟨rfl, rfl⟩ (AV.cons (vt rfl) (AV.cons (vt rfl) (AV.cons (vt rfl) (AV.nil)))) (fun _ w hw => ref_GetBeI s ((grT (getName s p)) + 4) 4 ((grT (getName s p)) + 8) w (by omega) (by decide) (by omega) (by omega) (by omega))) ?_
 refine W.go ?_
 refine W.q (O.call ⟨rfl, rfl⟩ (AV.cons (vt rfl) (AV.cons (vt rfl) (AV.cons (vt rfl) (AV.nil)))) (fun _ w hw => ref_GetBeI s ((grT (getName s p)) + 8) 2 ((grT (getName s p)) + 10) w (by omega) (by decide) (by omega) (by omega) (by omega))) ?_
 refine W.go ?_
 refine W.p (O.bd (hv := PV.cons (vt rfl) (PV.cons (vt rfl) (PV.cons (vt rfl) (PV.nil))))) ?_
 refine W.al rfl rfl fun b2 => ?_
 refine W.st (vt rfl) (vt rfl) rfl ?_
 refine W.go ?_
 refine CW.cond (vt rfl) (fun hc2 => ?_) (fun hc2 => ?_)
 ·try simp only [sk] at hc2
  refine W.go ?_
  refine W.p (O.bd (hv := PV.nil)) ?_
  refine W.st (vt rfl) (vt rfl) rfl ?_
  refine W.go ?_
  refine ⟨_, [], (RVs.cell rfl (RVs.tmp rfl (RVs.tmp rfl RVs.nil))), List.nil_sublist _, ?_⟩
  refine ⟨?_, rfl⟩
  rw [rrGet_bad2 (by intro h; have h3 : (grT (getName s p)) + 10 + (numI (slc s ((grT (getName s p)) + 8) ((grT (getName s p)) + 10))) ≤ s.length := h.2.2; omega)]; rfl
 try simp only [sk] at hc2
 have h0 : grE (getName s p) = 0 := by omega
 have hcl : numI (slc s ((grT (getName s p)) + 2) ((grT (getName s p)) + 4)) = 1 := by omega
 have hen : ((grT (getName s p)) + 10 + (numI (slc s ((grT (getName s p)) + 8) ((grT (getName s p)) + 10)))) ≤ s.length := by omega
 refine W.go ?_
 refine CW.cond (vt rfl) (fun hc3 => ?_) (fun hc3 => ?_)
 ·try simp only [sk] at hc3
  refine W.go ?_
  refine W.q (O.call ⟨rfl, rfl⟩ (AV.cons (vt rfl) (AV.cons (vt rfl) (AV.cons (vt rfl) (AV.nil)))) (fun _ w hw => ref_GetBe _ _ _ w (by omega))) ?_
  refine W.go ?_
  first | refine W.st (vt rfl) (vt rfl) rfl ?_ | refine W.st (u := .int _ _) (vt rfl) (vt rfl) rfl ?_
  refine W.go ?_
  refine W.q (O.call ⟨rfl, rfl⟩ (AV.cons (vs rfl) (AV.nil)) (fun _ w hw => ref_RrMay (⟨(grN (getName s p)), (numI (slc s (grT (getName s p)) ((grT (getName s p)) + 2))), (numI (slc s ((grT (getName s p)) + 4) ((grT (getName s p)) + 8))), (beG s ((grT (getName s p)) + 10) 4).1, [], [], 0⟩ : RR) w (by show (grN (getName s p)).length ≤ _; omega) (by show ([] : List UInt8).length ≤ _; simp))) ?_
  refine W.go ?_
  refine CW.cond (vt rfl) (fun hc4 => ?_) (fun hc4 => ?_)
  ·try simp only [sk] at hc4
   refine W.go ?_
   refine W.p (O.bd (hv := PV.nil)) ?_
   refine W.st (vt rfl) (vt rfl) rfl ?_
   refine W.go ?_
   refine ⟨_, [], (RVs.cell rfl (RVs.tmp rfl (RVs.tmp rfl RVs.nil))), List.nil_sublist _, ?_⟩
   refine ⟨?_, rfl⟩
   first | (exfalso; omega) | (rw [show rrGet s p = (noR, 0, 400) from (rrGet_two h0 rfl (by omega) hcl rfl rfl rfl hen rfl (dG_1 (r := (⟨(grN (getName s p)), (numI (slc s (grT (getName s p)) ((grT (getName s p)) + 2))), (numI (slc s ((grT (getName s p)) + 4) ((grT (getName s p)) + 8))), 0, [], [], 0⟩ : RR)) (p := ((grT (getName s p)) + 10)) (by dsimp only; omega) (by omega) rfl hen)).1 hc4]; rfl)
  try simp only [sk] at hc4
  refine W.go ?_
  refine W.st (vt rfl) (vt rfl) rfl ?_
  refine W.go ?_
  refine ⟨_, [], (RVs.cell rfl (RVs.tmp rfl (RVs.tmp rfl RVs.nil))), List.nil_sublist _, ?_⟩
  refine ⟨?_, rfl⟩
  first | (exfalso; omega) | (rw [show rrGet s p = ((⟨(grN (getName s p)), (numI (slc s (grT (getName s p)) ((grT (getName s p)) + 2))), (numI (slc s ((grT (getName s p)) + 4) ((grT (getName s p)) + 8))), (beG s ((grT (getName s p)) + 10) 4).1, [], [], 0⟩ : RR), ((grT (getName s p)) + 10 + (numI (slc s ((grT (getName s p)) + 8) ((grT (getName s p)) + 10)))), 0) from (rrGet_two h0 rfl (by omega) hcl rfl rfl rfl hen rfl (dG_1 (r := (⟨(grN (getName s p)), (numI (slc s (grT (getName s p)) ((grT (getName s p)) + 2))), (numI (slc s ((grT (getName s p)) + 4) ((grT (getName s p)) + 8))), 0, [], [], 0⟩ : RR)) (p := ((grT (getName s p)) + 10)) (by dsimp only; omega) (by omega) rfl hen)).2 hc4]; rfl)
 try simp only [sk] at hc3
 refine W.go ?_
 refine CW.cond (vt rfl) (fun hc5 => ?_) (fun hc5 => ?_)
 ·try simp only [sk] at hc5
  refine W.go ?_
  refine CW.cond (vt rfl) (fun hc6 => ?_) (fun hc6 => ?_)
  ·try simp only [sk] at hc6
   refine W.go ?_
   refine W.p O.slcH ?_
   refine W.go ?_
   refine W.q (O.call ⟨rfl, rfl⟩ (AV.cons (vt rfl) (AV.cons (vt rfl) (AV.nil))) (fun _ w hw => ref_GetName _ _ w (by first | exact hs | (rw [List.length_take]; omega)))) ?_
   refine W.go ?_
   first | refine W.st (vt rfl) (vt rfl) rfl ?_ | refine W.st (u := .string _) (vt rfl) (vt rfl) rfl ?_
   refine W.go ?_
   refine W.q (O.call ⟨rfl, rfl⟩ (AV.cons (vs rfl) (AV.nil)) (fun _ w hw => ref_RrMay (⟨(grN (getName s p)), (numI (slc s (grT (getName s p)) ((grT (getName s p)) + 2))), (numI (slc s ((grT (getName s p)) + 4) ((grT (getName s p)) + 8))), 0, grN (getName (s.take ((grT (getName s p)) + 10 + (numI (slc s ((grT (getName s p)) + 8) ((grT (getName s p)) + 10)))).toNat) ((grT (getName s p)) + 10)), [], 0⟩ : RR) w (by show (grN (getName s p)).length ≤ _; omega) (by show (grN _).length ≤ _; exact Nat.le_trans (grN_len _ _) (by decide)))) ?_
   refine W.go ?_
   refine CW.cond (vt rfl) (fun hc7 => ?_) (fun hc7 => ?_)
   ·try simp only [sk] at hc7
    refine W.go ?_
    refine W.p (O.bd (hv := PV.nil)) ?_
    refine W.st (vt rfl) (vt rfl) rfl ?_
    refine W.go ?_
    refine ⟨_, [], (RVs.cell rfl (RVs.tmp rfl (RVs.tmp rfl RVs.nil))), List.nil_sublist _, ?_⟩
    refine ⟨?_, rfl⟩
    first | (exfalso; omega) | (rw [show rrGet s p = (noR, 0, 400) from (rrGet_two h0 rfl (by omega) hcl rfl rfl rfl hen rfl (dG_n (r := (⟨(grN (getName s p)), (numI (slc s (grT (getName s p)) ((grT (getName s p)) + 2))), (numI (slc s ((grT (getName s p)) + 4) ((grT (getName s p)) + 8))), 0, [], [], 0⟩ : RR)) (p := ((grT (getName s p)) + 10)) (by dsimp only; omega) rfl hen)).1 (na2 hc7)]; rfl)
   try simp only [sk] at hc7
   refine W.go ?_
   refine W.st (vt rfl) (vt rfl) rfl ?_
   refine W.go ?_
   refine ⟨_, [], (RVs.cell rfl (RVs.tmp rfl (RVs.tmp rfl RVs.nil))), List.nil_sublist _, ?_⟩
   refine ⟨?_, rfl⟩
   first | (exfalso; omega) | (rw [show rrGet s p = ((⟨(grN (getName s p)), (numI (slc s (grT (getName s p)) ((grT (getName s p)) + 2))), (numI (slc s ((grT (getName s p)) + 4) ((grT (getName s p)) + 8))), 0, grN (getName (s.take ((grT (getName s p)) + 10 + (numI (slc s ((grT (getName s p)) + 8) ((grT (getName s p)) + 10)))).toNat) ((grT (getName s p)) + 10)), [], 0⟩ : RR), ((grT (getName s p)) + 10 + (numI (slc s ((grT (getName s p)) + 8) ((grT (getName s p)) + 10)))), 0) from (rrGet_two h0 rfl (by omega) hcl rfl rfl rfl hen rfl (dG_n (r := (⟨(grN (getName s p)), (numI (slc s (grT (getName s p)) ((grT (getName s p)) + 2))), (numI (slc s ((grT (getName s p)) + 4) ((grT (getName s p)) + 8))), 0, [], [], 0⟩ : RR)) (p := ((grT (getName s p)) + 10)) (by dsimp only; omega) rfl hen)).2 hc7]; rfl)
  exfalso; simp [hc5] at hc6
 try simp only [sk] at hc5
 refine W.go ?_
 refine CW.cond (vt rfl) (fun hc8 => ?_) (fun hc8 => ?_)
 ·try simp only [sk] at hc8
  refine W.go ?_
  refine CW.cond (vt rfl) (fun hc9 => ?_) (fun hc9 => ?_)
  ·try simp only [sk] at hc9
   refine W.go ?_
   refine W.p O.slcH ?_
   refine W.go ?_
   refine W.q (O.call ⟨rfl, rfl⟩ (AV.cons (vt rfl) (AV.cons (vt rfl) (AV.nil))) (fun _ w hw => ref_GetName _ _ w (by first | exact hs | (rw [List.length_take]; omega)))) ?_
   refine W.go ?_
   first | refine W.st (vt rfl) (vt rfl) rfl ?_ | refine W.st (u := .string _) (vt rfl) (vt rfl) rfl ?_
   refine W.go ?_
   refine W.q (O.call ⟨rfl, rfl⟩ (AV.cons (vs rfl) (AV.nil)) (fun _ w hw => ref_RrMay (⟨(grN (getName s p)), (numI (slc s (grT (getName s p)) ((grT (getName s p)) + 2))), (numI (slc s ((grT (getName s p)) + 4) ((grT (getName s p)) + 8))), 0, grN (getName (s.take ((grT (getName s p)) + 10 + (numI (slc s ((grT (getName s p)) + 8) ((grT (getName s p)) + 10)))).toNat) ((grT (getName s p)) + 10)), [], 0⟩ : RR) w (by show (grN (getName s p)).length ≤ _; omega) (by show (grN _).length ≤ _; exact Nat.le_trans (grN_len _ _) (by decide)))) ?_
   refine W.go ?_
   refine CW.cond (vt rfl) (fun hc10 => ?_) (fun hc10 => ?_)
   ·try simp only [sk] at hc10
    refine W.go ?_
    refine W.p (O.bd (hv := PV.nil)) ?_
    refine W.st (vt rfl) (vt rfl) rfl ?_
    refine W.go ?_
    refine ⟨_, [], (RVs.cell rfl (RVs.tmp rfl (RVs.tmp rfl RVs.nil))), List.nil_sublist _, ?_⟩
    refine ⟨?_, rfl⟩
    first | (exfalso; omega) | (rw [show rrGet s p = (noR, 0, 400) from (rrGet_two h0 rfl (by omega) hcl rfl rfl rfl hen rfl (dG_n (r := (⟨(grN (getName s p)), (numI (slc s (grT (getName s p)) ((grT (getName s p)) + 2))), (numI (slc s ((grT (getName s p)) + 4) ((grT (getName s p)) + 8))), 0, [], [], 0⟩ : RR)) (p := ((grT (getName s p)) + 10)) (by dsimp only; omega) rfl hen)).1 (na2 hc10)]; rfl)
   try simp only [sk] at hc10
   refine W.go ?_
   refine W.st (vt rfl) (vt rfl) rfl ?_
   refine W.go ?_
   refine ⟨_, [], (RVs.cell rfl (RVs.tmp rfl (RVs.tmp rfl RVs.nil))), List.nil_sublist _, ?_⟩
   refine ⟨?_, rfl⟩
   first | (exfalso; omega) | (rw [show rrGet s p = ((⟨(grN (getName s p)), (numI (slc s (grT (getName s p)) ((grT (getName s p)) + 2))), (numI (slc s ((grT (getName s p)) + 4) ((grT (getName s p)) + 8))), 0, grN (getName (s.take ((grT (getName s p)) + 10 + (numI (slc s ((grT (getName s p)) + 8) ((grT (getName s p)) + 10)))).toNat) ((grT (getName s p)) + 10)), [], 0⟩ : RR), ((grT (getName s p)) + 10 + (numI (slc s ((grT (getName s p)) + 8) ((grT (getName s p)) + 10)))), 0) from (rrGet_two h0 rfl (by omega) hcl rfl rfl rfl hen rfl (dG_n (r := (⟨(grN (getName s p)), (numI (slc s (grT (getName s p)) ((grT (getName s p)) + 2))), (numI (slc s ((grT (getName s p)) + 4) ((grT (getName s p)) + 8))), 0, [], [], 0⟩ : RR)) (p := ((grT (getName s p)) + 10)) (by dsimp only; omega) rfl hen)).2 hc10]; rfl)
  exfalso; simp [hc8] at hc9
 try simp only [sk] at hc8
 refine W.go ?_
 refine CW.cond (vt rfl) (fun hc11 => ?_) (fun hc11 => ?_)
 ·try simp only [sk] at hc11
  refine W.go ?_
  refine W.p O.slcH ?_
  refine W.go ?_
  refine W.q (O.call ⟨rfl, rfl⟩ (AV.cons (vt rfl) (AV.cons (vt rfl) (AV.nil))) (fun _ w hw => ref_GetName _ _ w (by first | exact hs | (rw [List.length_take]; omega)))) ?_
  refine W.go ?_
  first | refine W.st (vt rfl) (vt rfl) rfl ?_ | refine W.st (u := .string _) (vt rfl) (vt rfl) rfl ?_
  refine W.go ?_
  refine W.q (O.call ⟨rfl, rfl⟩ (AV.cons (vs rfl) (AV.nil)) (fun _ w hw => ref_RrMay (⟨(grN (getName s p)), (numI (slc s (grT (getName s p)) ((grT (getName s p)) + 2))), (numI (slc s ((grT (getName s p)) + 4) ((grT (getName s p)) + 8))), 0, grN (getName (s.take ((grT (getName s p)) + 10 + (numI (slc s ((grT (getName s p)) + 8) ((grT (getName s p)) + 10)))).toNat) ((grT (getName s p)) + 10)), [], 0⟩ : RR) w (by show (grN (getName s p)).length ≤ _; omega) (by show (grN _).length ≤ _; exact Nat.le_trans (grN_len _ _) (by decide)))) ?_
  refine W.go ?_
  refine CW.cond (vt rfl) (fun hc12 => ?_) (fun hc12 => ?_)
  ·try simp only [sk] at hc12
   refine W.go ?_
   refine W.p (O.bd (hv := PV.nil)) ?_
   refine W.st (vt rfl) (vt rfl) rfl ?_
   refine W.go ?_
   refine ⟨_, [], (RVs.cell rfl (RVs.tmp rfl (RVs.tmp rfl RVs.nil))), List.nil_sublist _, ?_⟩
   refine ⟨?_, rfl⟩
   first | (exfalso; omega) | (rw [show rrGet s p = (noR, 0, 400) from (rrGet_two h0 rfl (by omega) hcl rfl rfl rfl hen rfl (dG_n (r := (⟨(grN (getName s p)), (numI (slc s (grT (getName s p)) ((grT (getName s p)) + 2))), (numI (slc s ((grT (getName s p)) + 4) ((grT (getName s p)) + 8))), 0, [], [], 0⟩ : RR)) (p := ((grT (getName s p)) + 10)) (by dsimp only; omega) rfl hen)).1 (na2 hc12)]; rfl)
  try simp only [sk] at hc12
  refine W.go ?_
  refine W.st (vt rfl) (vt rfl) rfl ?_
  refine W.go ?_
  refine ⟨_, [], (RVs.cell rfl (RVs.tmp rfl (RVs.tmp rfl RVs.nil))), List.nil_sublist _, ?_⟩
  refine ⟨?_, rfl⟩
  first | (exfalso; omega) | (rw [show rrGet s p = ((⟨(grN (getName s p)), (numI (slc s (grT (getName s p)) ((grT (getName s p)) + 2))), (numI (slc s ((grT (getName s p)) + 4) ((grT (getName s p)) + 8))), 0, grN (getName (s.take ((grT (getName s p)) + 10 + (numI (slc s ((grT (getName s p)) + 8) ((grT (getName s p)) + 10)))).toNat) ((grT (getName s p)) + 10)), [], 0⟩ : RR), ((grT (getName s p)) + 10 + (numI (slc s ((grT (getName s p)) + 8) ((grT (getName s p)) + 10)))), 0) from (rrGet_two h0 rfl (by omega) hcl rfl rfl rfl hen rfl (dG_n (r := (⟨(grN (getName s p)), (numI (slc s (grT (getName s p)) ((grT (getName s p)) + 2))), (numI (slc s ((grT (getName s p)) + 4) ((grT (getName s p)) + 8))), 0, [], [], 0⟩ : RR)) (p := ((grT (getName s p)) + 10)) (by dsimp only; omega) rfl hen)).2 hc12]; rfl)
 try simp only [sk] at hc11
 refine W.go ?_
 refine CW.cond (vt rfl) (fun hc13 => ?_) (fun hc13 => ?_)
 ·try simp only [sk] at hc13
  have hg2 := hgt ((grT (getName s p)) + 10 + (numI (slc s ((grT (getName s p)) + 8) ((grT (getName s p)) + 10)))) (grT (getName (s.take ((grT (getName s p)) + 10 + (numI (slc s ((grT (getName s p)) + 8) ((grT (getName s p)) + 10)))).toNat) ((grT (getName s p)) + 10)))
  have hg1 := hgt ((grT (getName s p)) + 10 + (numI (slc s ((grT (getName s p)) + 8) ((grT (getName s p)) + 10)))) ((grT (getName s p)) + 10)
  refine W.go ?_
  refine W.p O.slcH ?_
  refine W.go ?_
  refine W.q (O.call ⟨rfl, rfl⟩ (AV.cons (vt rfl) (AV.cons (vt rfl) (AV.nil))) (fun _ w hw => ref_GetName _ _ w (by first | exact hs | (rw [List.length_take]; omega)))) ?_
  refine W.go ?_
  refine W.p O.slcH ?_
  refine W.go ?_
  refine W.q (O.call ⟨rfl, rfl⟩ (AV.cons (vt rfl) (AV.cons (vt rfl) (AV.nil))) (fun _ w hw => ref_GetName _ _ w (by first | exact hs | (rw [List.length_take]; omega)))) ?_
  refine W.go ?_
  refine W.q (O.call ⟨rfl, rfl⟩ (AV.cons (vt rfl) (AV.cons (vt rfl) (AV.cons (vt rfl) (AV.nil)))) (fun _ w hw => ref_GetBe _ _ _ w (by omega))) ?_
  refine W.go ?_
  first | refine W.st (vt rfl) (vt rfl) rfl ?_ | refine W.st (u := .string _) (vt rfl) (vt rfl) rfl ?_
  refine W.go ?_
  first | refine W.st (vt rfl) (vt rfl) rfl ?_ | refine W.st (u := .int _ _) (vt rfl) (vt rfl) rfl ?_
  refine W.go ?_
  refine CW.draw 33 rfl (by kernel_rfl) ?_
  refine WQ.p O.mv ?_
  refine WQ.p O.eqI ?_
  refine WQ.p O.mv ?_
  refine WQ.p O.mv ?_
  refine WQ.p O.eqI ?_
  refine WQ.p O.pkB ?_
  refine WQ.p O.mv ?_
  refine WQ.p O.mv ?_
  refine WQ.p O.mv ?_
  refine WQ.p O.eqS ?_
  refine WQ.p O.pkB ?_
  refine WQ.p O.mv ?_
  refine WQ.p O.mv ?_
  first | refine WQ.p O.addN ?_ | refine WQ.p O.add ?_
  refine WQ.p O.mv ?_
  refine WQ.p O.eqI ?_
  refine WQ.p O.pkB ?_
  refine WQ.p O.mv ?_
  refine WQ.p O.mv ?_
  refine WQ.p O.mv ?_
  first | refine WQ.p O.addN ?_ | refine WQ.p O.add ?_
  refine WQ.p O.mv ?_
  refine WQ.p O.slc ?_
  refine WQ.q (O.call ⟨rfl, rfl⟩ (AV.cons (vt rfl) (AV.cons (vt rfl) (AV.nil))) (fun _ w hw => ref_Num _ 4 w (by decide) (by decide))) ?_
  refine WQ.q (O.call ⟨rfl, rfl⟩ (AV.cons (vt rfl) (AV.cons (vt rfl) (AV.nil))) (fun _ w hw => ref_Num _ 4 w (by decide) (by decide))) ?_
  refine WQ.p O.addS ?_
  refine WQ.q (O.call ⟨rfl, rfl⟩ (AV.cons (vt rfl) (AV.cons (vt rfl) (AV.nil))) (fun _ w hw => ref_Num _ 4 w (by decide) (by decide))) ?_
  refine WQ.p O.addS ?_
  refine WQ.q (O.call ⟨rfl, rfl⟩ (AV.cons (vt rfl) (AV.cons (vt rfl) (AV.nil))) (fun _ w hw => ref_Num _ 4 w (by decide) (by decide))) ?_
  refine WQ.p O.addS ?_
  refine WQ.p O.eqS ?_
  refine WQ.p O.pkB ?_
  refine WQ.p O.as ?_
  refine WQ.nil ?_
  refine WL.nil (Q.bn (Q.tn ?_))
  refine W.go ?_
  refine W.q (O.call ⟨rfl, rfl⟩ (AV.cons (vs rfl) (AV.nil)) (fun _ w hw => ref_RrMay (⟨(grN (getName s p)), (numI (slc s (grT (getName s p)) ((grT (getName s p)) + 2))), (numI (slc s ((grT (getName s p)) + 4) ((grT (getName s p)) + 8))), 0, grN (getName (s.take ((grT (getName s p)) + 10 + (numI (slc s ((grT (getName s p)) + 8) ((grT (getName s p)) + 10)))).toNat) ((grT (getName s p)) + 10)), [], (beG s (grT (getName (s.take ((grT (getName s p)) + 10 + (numI (slc s ((grT (getName s p)) + 8) ((grT (getName s p)) + 10)))).toNat) (grT (getName (s.take ((grT (getName s p)) + 10 + (numI (slc s ((grT (getName s p)) + 8) ((grT (getName s p)) + 10)))).toNat) ((grT (getName s p)) + 10))))) 4).1⟩ : RR) w (by show (grN (getName s p)).length ≤ _; omega) (by show (grN _).length ≤ _; exact Nat.le_trans (grN_len _ _) (by decide)))) ?_
  refine W.go ?_
  refine CW.cond (vt rfl) (fun hc14 => ?_) (fun hc14 => ?_)
  ·try simp only [sk] at hc14
   refine W.go ?_
   refine W.p (O.bd (hv := PV.nil)) ?_
   refine W.st (vt rfl) (vt rfl) rfl ?_
   refine W.go ?_
   refine ⟨_, [], (RVs.cell rfl (RVs.tmp rfl (RVs.tmp rfl RVs.nil))), List.nil_sublist _, ?_⟩
   refine ⟨?_, rfl⟩
   first | (exfalso; omega) | (rw [show rrGet s p = (noR, 0, 400) from (rrGet_two h0 rfl (by omega) hcl rfl rfl rfl hen rfl (dG_6 (r := (⟨(grN (getName s p)), (numI (slc s (grT (getName s p)) ((grT (getName s p)) + 2))), (numI (slc s ((grT (getName s p)) + 4) ((grT (getName s p)) + 8))), 0, [], [], 0⟩ : RR)) (p := ((grT (getName s p)) + 10)) (by dsimp only; omega) (by omega) rfl hen)).1 (na5 hc14)]; rfl)
  try simp only [sk] at hc14
  refine W.go ?_
  refine W.st (vt rfl) (vt rfl) rfl ?_
  refine W.go ?_
  refine ⟨_, [], (RVs.cell rfl (RVs.tmp rfl (RVs.tmp rfl RVs.nil))), List.nil_sublist _, ?_⟩
  refine ⟨?_, rfl⟩
  first | (exfalso; omega) | (rw [show rrGet s p = ((⟨(grN (getName s p)), (numI (slc s (grT (getName s p)) ((grT (getName s p)) + 2))), (numI (slc s ((grT (getName s p)) + 4) ((grT (getName s p)) + 8))), 0, grN (getName (s.take ((grT (getName s p)) + 10 + (numI (slc s ((grT (getName s p)) + 8) ((grT (getName s p)) + 10)))).toNat) ((grT (getName s p)) + 10)), [], (beG s (grT (getName (s.take ((grT (getName s p)) + 10 + (numI (slc s ((grT (getName s p)) + 8) ((grT (getName s p)) + 10)))).toNat) (grT (getName (s.take ((grT (getName s p)) + 10 + (numI (slc s ((grT (getName s p)) + 8) ((grT (getName s p)) + 10)))).toNat) ((grT (getName s p)) + 10))))) 4).1⟩ : RR), ((grT (getName s p)) + 10 + (numI (slc s ((grT (getName s p)) + 8) ((grT (getName s p)) + 10)))), 0) from (rrGet_two h0 rfl (by omega) hcl rfl rfl rfl hen rfl (dG_6 (r := (⟨(grN (getName s p)), (numI (slc s (grT (getName s p)) ((grT (getName s p)) + 2))), (numI (slc s ((grT (getName s p)) + 4) ((grT (getName s p)) + 8))), 0, [], [], 0⟩ : RR)) (p := ((grT (getName s p)) + 10)) (by dsimp only; omega) (by omega) rfl hen)).2 hc14]; rfl)
 try simp only [sk] at hc13
 refine W.go ?_
 refine CW.cond (vt rfl) (fun hc15 => ?_) (fun hc15 => ?_)
 ·try simp only [sk] at hc15
  refine W.go ?_
  refine W.p O.min ?_
  first | refine W.p O.idxS ?_ | refine W.p (O.idxS (h := fun hg => by simp only [cond_true, cond_false, Bool.true_and, Bool.cond_false_right, Bool.cond_true_left, Bool.and_eq_true, Bool.or_eq_true, Bool.or_eq_false_iff, Bool.and_eq_false_iff, Bool.not_eq_true', Bool.not_eq_false', decide_eq_true_eq, decide_eq_false_iff_not, Int.reduceToNat] at *; omega)) ?_
  first | refine W.p O.cvB ?_ | refine W.p O.cv ?_
  refine W.go ?_
  refine W.p O.min ?_
  refine W.go ?_
  refine W.p O.slc ?_
  refine W.go ?_
  first | refine W.st (vt rfl) (vt rfl) rfl ?_ | refine W.st (u := .string _) (vt rfl) (vt rfl) rfl ?_
  refine W.go ?_
  refine W.q (O.call ⟨rfl, rfl⟩ (AV.cons (vs rfl) (AV.nil)) (fun _ w hw => ref_RrMay (⟨(grN (getName s p)), (numI (slc s (grT (getName s p)) ((grT (getName s p)) + 2))), (numI (slc s ((grT (getName s p)) + 4) ((grT (getName s p)) + 8))), 0, [], slc s (min (((grT (getName s p)) + 10) + 1) ((grT (getName s p)) + 10 + (numI (slc s ((grT (getName s p)) + 8) ((grT (getName s p)) + 10))))) ((grT (getName s p)) + 10 + (numI (slc s ((grT (getName s p)) + 8) ((grT (getName s p)) + 10)))), 0⟩ : RR) w (by show (grN (getName s p)).length ≤ _; omega) (by show ([] : List UInt8).length ≤ _; simp))) ?_
  refine W.go ?_
  refine CW.cond (vt rfl) (fun hc16 => ?_) (fun hc16 => ?_)
  ·try simp only [sk] at hc16
   refine W.go ?_
   refine W.p (O.bd (hv := PV.nil)) ?_
   refine W.st (vt rfl) (vt rfl) rfl ?_
   refine W.go ?_
   refine ⟨_, [], (RVs.cell rfl (RVs.tmp rfl (RVs.tmp rfl RVs.nil))), List.nil_sublist _, ?_⟩
   refine ⟨?_, rfl⟩
   first | (exfalso; omega) | (rw [show rrGet s p = (noR, 0, 400) from (rrGet_two h0 rfl (by omega) hcl rfl rfl rfl hen rfl (dG_16 (r := (⟨(grN (getName s p)), (numI (slc s (grT (getName s p)) ((grT (getName s p)) + 2))), (numI (slc s ((grT (getName s p)) + 4) ((grT (getName s p)) + 8))), 0, [], [], 0⟩ : RR)) (p := ((grT (getName s p)) + 10)) (by dsimp only; omega) (by omega) rfl hen hz.1)).1 (na2 hc16)]; rfl)
  try simp only [sk] at hc16
  refine W.go ?_
  refine W.st (vt rfl) (vt rfl) rfl ?_
  refine W.go ?_
  refine ⟨_, [], (RVs.cell rfl (RVs.tmp rfl (RVs.tmp rfl RVs.nil))), List.nil_sublist _, ?_⟩
  refine ⟨?_, rfl⟩
  first | (exfalso; omega) | (rw [show rrGet s p = ((⟨(grN (getName s p)), (numI (slc s (grT (getName s p)) ((grT (getName s p)) + 2))), (numI (slc s ((grT (getName s p)) + 4) ((grT (getName s p)) + 8))), 0, [], slc s (min (((grT (getName s p)) + 10) + 1) ((grT (getName s p)) + 10 + (numI (slc s ((grT (getName s p)) + 8) ((grT (getName s p)) + 10))))) ((grT (getName s p)) + 10 + (numI (slc s ((grT (getName s p)) + 8) ((grT (getName s p)) + 10)))), 0⟩ : RR), ((grT (getName s p)) + 10 + (numI (slc s ((grT (getName s p)) + 8) ((grT (getName s p)) + 10)))), 0) from (rrGet_two h0 rfl (by omega) hcl rfl rfl rfl hen rfl (dG_16 (r := (⟨(grN (getName s p)), (numI (slc s (grT (getName s p)) ((grT (getName s p)) + 2))), (numI (slc s ((grT (getName s p)) + 4) ((grT (getName s p)) + 8))), 0, [], [], 0⟩ : RR)) (p := ((grT (getName s p)) + 10)) (by dsimp only; omega) (by omega) rfl hen hz.1)).2 hc16]; rfl)
 try simp only [sk] at hc15
 refine W.go ?_
 refine CW.cond (vt rfl) (fun hc17 => ?_) (fun hc17 => ?_)
 ·try simp only [sk] at hc17
  refine W.go ?_
  refine W.p O.slc ?_
  refine W.go ?_
  first | refine W.st (vt rfl) (vt rfl) rfl ?_ | refine W.st (u := .string _) (vt rfl) (vt rfl) rfl ?_
  refine W.go ?_
  refine W.q (O.call ⟨rfl, rfl⟩ (AV.cons (vs rfl) (AV.nil)) (fun _ w hw => ref_RrMay (⟨(grN (getName s p)), (numI (slc s (grT (getName s p)) ((grT (getName s p)) + 2))), (numI (slc s ((grT (getName s p)) + 4) ((grT (getName s p)) + 8))), 0, [], slc s ((grT (getName s p)) + 10) ((grT (getName s p)) + 10 + (numI (slc s ((grT (getName s p)) + 8) ((grT (getName s p)) + 10)))), 0⟩ : RR) w (by show (grN (getName s p)).length ≤ _; omega) (by show ([] : List UInt8).length ≤ _; simp))) ?_
  refine W.go ?_
  refine CW.cond (vt rfl) (fun hc18 => ?_) (fun hc18 => ?_)
  ·try simp only [sk] at hc18
   refine W.go ?_
   refine W.p (O.bd (hv := PV.nil)) ?_
   refine W.st (vt rfl) (vt rfl) rfl ?_
   refine W.go ?_
   refine ⟨_, [], (RVs.cell rfl (RVs.tmp rfl (RVs.tmp rfl RVs.nil))), List.nil_sublist _, ?_⟩
   refine ⟨?_, rfl⟩
   first | (exfalso; omega) | (rw [show rrGet s p = (noR, 0, 400) from (rrGet_two h0 rfl (by omega) hcl rfl rfl rfl hen rfl (dG_49 (r := (⟨(grN (getName s p)), (numI (slc s (grT (getName s p)) ((grT (getName s p)) + 2))), (numI (slc s ((grT (getName s p)) + 4) ((grT (getName s p)) + 8))), 0, [], [], 0⟩ : RR)) (p := ((grT (getName s p)) + 10)) (by dsimp only; omega) rfl)).1 (by rcases hc18 with h | h; cases h; exact .inr h)]; rfl)
  try simp only [sk] at hc18
  refine W.go ?_
  refine W.st (vt rfl) (vt rfl) rfl ?_
  refine W.go ?_
  refine ⟨_, [], (RVs.cell rfl (RVs.tmp rfl (RVs.tmp rfl RVs.nil))), List.nil_sublist _, ?_⟩
  refine ⟨?_, rfl⟩
  first | (exfalso; omega) | (rw [show rrGet s p = ((⟨(grN (getName s p)), (numI (slc s (grT (getName s p)) ((grT (getName s p)) + 2))), (numI (slc s ((grT (getName s p)) + 4) ((grT (getName s p)) + 8))), 0, [], slc s ((grT (getName s p)) + 10) ((grT (getName s p)) + 10 + (numI (slc s ((grT (getName s p)) + 8) ((grT (getName s p)) + 10)))), 0⟩ : RR), ((grT (getName s p)) + 10 + (numI (slc s ((grT (getName s p)) + 8) ((grT (getName s p)) + 10)))), 0) from (rrGet_two h0 rfl (by omega) hcl rfl rfl rfl hen rfl (dG_49 (r := (⟨(grN (getName s p)), (numI (slc s (grT (getName s p)) ((grT (getName s p)) + 2))), (numI (slc s ((grT (getName s p)) + 4) ((grT (getName s p)) + 8))), 0, [], [], 0⟩ : RR)) (p := ((grT (getName s p)) + 10)) (by dsimp only; omega) rfl)).2 ⟨trivial, hc18.2⟩]; rfl)
 try simp only [sk] at hc17
 refine W.go ?_
 refine W.q (O.call ⟨rfl, rfl⟩ (AV.cons (vs rfl) (AV.nil)) (fun _ w hw => ref_RrMay (⟨(grN (getName s p)), (numI (slc s (grT (getName s p)) ((grT (getName s p)) + 2))), (numI (slc s ((grT (getName s p)) + 4) ((grT (getName s p)) + 8))), 0, [], [], 0⟩ : RR) w (by show (grN (getName s p)).length ≤ _; omega) (by show ([] : List UInt8).length ≤ _; simp))) ?_
 refine W.go ?_
 refine CW.cond (vt rfl) (fun hc19 => ?_) (fun hc19 => ?_)
 ·try simp only [sk] at hc19
  refine W.go ?_
  refine W.p (O.bd (hv := PV.nil)) ?_
  refine W.st (vt rfl) (vt rfl) rfl ?_
  refine W.go ?_
  refine ⟨_, [], (RVs.cell rfl (RVs.tmp rfl (RVs.tmp rfl RVs.nil))), List.nil_sublist _, ?_⟩
  refine ⟨?_, rfl⟩
  first | (exfalso; omega) | (rw [show rrGet s p = (noR, 0, 400) from rrGet_other rfl rfl (by omega)]; rfl)
 try simp only [sk] at hc19
 refine W.go ?_
 refine W.st (vt rfl) (vt rfl) rfl ?_
 refine W.go ?_
 refine ⟨_, [], (RVs.cell rfl (RVs.tmp rfl (RVs.tmp rfl RVs.nil))), List.nil_sublist _, ?_⟩
 refine ⟨?_, rfl⟩
 exfalso; simp at hc19
end Go.Proofs.YtfmdaijkgjkmpaaGreatDoor
