/- What the document's functions over records come to. Conditions: the texts are not longer than some 2^42 bytes, the rows not than a thousand millions. -/
import Derived.Test.YtagiajnpnjakhaaDoorRr
import Derived.Test.YtagiajnpnjakhaaDoorRName
import Derived.Test.YtagiajnpnjakhaaDoorRefW
set_option linter.unusedVariables false
set_option linter.unusedSimpArgs false
namespace Go.Proofs.YtagiajnpnjakhaaDoor
open Go Go.RowKit
set_option maxRecDepth 100000 in
theorem ref_RrMay (r : RR) (w : World) (h1 : r.name.length ≤ 4398046511104) (h2 : r.target.length ≤ 4398046511104) : Fn Tryd.prog 27 [vR r] w [] fun v L' => v = .bool (rrMay r) ∧ L' = [] := by
  refine Fn.enter Tryd.func27 rfl rfl rfl rfl (Holds.nil w) ?_
  refine CW.seq ?_
  refine CW.region ?_
  refine W.bx rfl (vt rfl) rfl fun b1 => ?_
  refine W.p O.as ?_
  refine WL.nil (Q.tn ?_)
  refine CW.seq ?_
  refine CW.region ?_
  first | refine W.p O.fb ?_ | refine W.p O.fa ?_
  refine W.p O.ld ?_
  first | refine W.p O.fb ?_ | refine W.p O.fa ?_
  refine W.p O.ld ?_
  first | refine W.p O.fb ?_ | refine W.p O.fa ?_
  refine W.p O.ld ?_
  refine W.p (O.bd (hv := PV.cons (vt rfl) (PV.cons (vt rfl) (PV.cons (vt rfl) (PV.nil))))) ?_
  refine W.al rfl rfl fun b2 => ?_
  refine W.st (vt rfl) (vt rfl) rfl ?_
  refine WL.nil (Q.tn ?_)
  refine CW.seq ?_
  refine CW.seq ?_
  refine CW.region ?_
  first | refine W.p O.fb ?_ | refine W.p O.fa ?_
  refine W.p O.ld ?_
  refine WL.nil (Q.tn ?_)
  refine CW.block ?_
  refine CW.seq ?_
  refine CW.region ?_
  refine W.p O.eqI ?_
  refine W.p O.as ?_
  refine WL.nil (Q.tn ?_)
  refine CW.cond (vt rfl) (fun hc1 => ?_) (fun hc1 => ?_)
  · try simp only [sk] at hc1
    refine CW.region ?_
    first | refine W.p O.fb ?_ | refine W.p O.fa ?_
    refine W.p O.ld ?_
    first | refine W.p O.fb ?_ | refine W.p O.fa ?_
    first | refine W.st (vt rfl) (vt rfl) rfl ?_ | refine W.st (u := .int _ _) (vt rfl) (vt rfl) rfl ?_
    refine WL.nil (Q.bn (Q.tn ?_))
    refine CW.seq ?_
    refine CW.region ?_
    refine W.p O.lds ?_
    refine W.p O.lds ?_
    refine W.p O.eqT ?_
    refine W.p O.mv ?_
    first | refine W.p O.fb ?_ | refine W.p O.fa ?_
    refine W.p O.ld ?_
    refine W.q (O.call ⟨rfl, rfl⟩ (AV.cons (vs rfl) (AV.nil)) (fun _ w hw => ref_NameMay _ w (by omega))) ?_
    refine W.p O.pkB ?_
    refine W.p O.mv ?_
    first | refine W.p O.fb ?_ | refine W.p O.fa ?_
    refine W.p O.ld ?_
    refine W.p O.geq ?_
    refine W.p O.pkB ?_
    refine W.p O.mv ?_
    first | refine W.p O.fb ?_ | refine W.p O.fa ?_
    refine W.p O.ld ?_
    refine W.p O.leq ?_
    refine W.p O.pkB ?_
    refine W.p O.mv ?_
    first | refine W.p O.fb ?_ | refine W.p O.fa ?_
    refine W.p O.ld ?_
    refine W.q (O.call ⟨rfl, rfl⟩ (AV.cons (vs rfl) (AV.cons (vt rfl) (AV.nil))) (fun _ w hw => ref_within _ 32 w (by decide))) ?_
    refine W.p O.pkB ?_
    refine W.p O.mv ?_
    first | refine W.p O.fb ?_ | refine W.p O.fa ?_
    refine W.p O.ld ?_
    refine W.q (O.call ⟨rfl, rfl⟩ (AV.cons (vs rfl) (AV.nil)) (fun _ w hw => ref_NameMay _ w (by omega))) ?_
    refine W.p O.pkB ?_
    refine W.p O.mv ?_
    first | refine W.p O.fb ?_ | refine W.p O.fa ?_
    refine W.p O.ld ?_
    refine W.q (O.call ⟨rfl, rfl⟩ (AV.cons (vs rfl) (AV.cons (vt rfl) (AV.nil))) (fun _ w hw => ref_within _ 32 w (by decide))) ?_
    refine W.p O.pkB ?_
    refine W.p O.mv ?_
    first | refine W.p O.fb ?_ | refine W.p O.fa ?_
    refine W.p O.ld ?_
    refine W.p O.len ?_
    refine W.p O.leq ?_
    refine W.p O.pkB ?_
    refine W.p O.as ?_
    refine WL.nil (Q.tn ?_)
    refine CW.ret ?_
    refine ⟨_, [], (RVs.tmp rfl RVs.nil), List.nil_sublist _, ?_⟩
    refine ⟨congrArg Value.bool ?_, rfl⟩
    have hS : ∀ l : List UInt8, (S l).data.toList = l := fun _ => rfl
    have hN : nmMay [] = true := rfl
    have hZ : ([] : List UInt8).length = 0 := rfl
    try simp only [hS]
    rw [Bool.eq_iff_iff]
    simp [rrMay, rrBody, isName, word, *]
    try grind
  try simp only [sk] at hc1
  refine CW.seq ?_
  refine CW.seq ?_
  refine CW.region ?_
  refine W.p O.eqI ?_
  refine W.p O.as ?_
  refine WL.nil (Q.tn ?_)
  refine CW.cond (vt rfl) (fun hc2 => ?_) (fun hc2 => ?_)
  · try simp only [sk] at hc2
    refine CW.skip (Q.tn ?_)
    refine CW.cond (vt rfl) (fun hc3 => ?_) (fun hc3 => ?_)
    · try simp only [sk] at hc3
      refine CW.region ?_
      first | refine W.p O.fb ?_ | refine W.p O.fa ?_
      refine W.p O.ld ?_
      first | refine W.p O.fb ?_ | refine W.p O.fa ?_
      first | refine W.st (vt rfl) (vt rfl) rfl ?_ | refine W.st (u := .string _) (vt rfl) (vt rfl) rfl ?_
      refine WL.nil (Q.bn (Q.tn ?_))
      refine CW.seq ?_
      refine CW.region ?_
      refine W.p O.lds ?_
      refine W.p O.lds ?_
      refine W.p O.eqT ?_
      refine W.p O.mv ?_
      first | refine W.p O.fb ?_ | refine W.p O.fa ?_
      refine W.p O.ld ?_
      refine W.q (O.call ⟨rfl, rfl⟩ (AV.cons (vs rfl) (AV.nil)) (fun _ w hw => ref_NameMay _ w (by omega))) ?_
      refine W.p O.pkB ?_
      refine W.p O.mv ?_
      first | refine W.p O.fb ?_ | refine W.p O.fa ?_
      refine W.p O.ld ?_
      refine W.p O.geq ?_
      refine W.p O.pkB ?_
      refine W.p O.mv ?_
      first | refine W.p O.fb ?_ | refine W.p O.fa ?_
      refine W.p O.ld ?_
      refine W.p O.leq ?_
      refine W.p O.pkB ?_
      refine W.p O.mv ?_
      first | refine W.p O.fb ?_ | refine W.p O.fa ?_
      refine W.p O.ld ?_
      refine W.q (O.call ⟨rfl, rfl⟩ (AV.cons (vs rfl) (AV.cons (vt rfl) (AV.nil))) (fun _ w hw => ref_within _ 32 w (by decide))) ?_
      refine W.p O.pkB ?_
      refine W.p O.mv ?_
      first | refine W.p O.fb ?_ | refine W.p O.fa ?_
      refine W.p O.ld ?_
      refine W.q (O.call ⟨rfl, rfl⟩ (AV.cons (vs rfl) (AV.nil)) (fun _ w hw => ref_NameMay _ w (by omega))) ?_
      refine W.p O.pkB ?_
      refine W.p O.mv ?_
      first | refine W.p O.fb ?_ | refine W.p O.fa ?_
      refine W.p O.ld ?_
      refine W.q (O.call ⟨rfl, rfl⟩ (AV.cons (vs rfl) (AV.cons (vt rfl) (AV.nil))) (fun _ w hw => ref_within _ 32 w (by decide))) ?_
      refine W.p O.pkB ?_
      refine W.p O.mv ?_
      first | refine W.p O.fb ?_ | refine W.p O.fa ?_
      refine W.p O.ld ?_
      refine W.p O.len ?_
      refine W.p O.leq ?_
      refine W.p O.pkB ?_
      refine W.p O.as ?_
      refine WL.nil (Q.tn ?_)
      refine CW.ret ?_
      refine ⟨_, [], (RVs.tmp rfl RVs.nil), List.nil_sublist _, ?_⟩
      refine ⟨congrArg Value.bool ?_, rfl⟩
      have hS : ∀ l : List UInt8, (S l).data.toList = l := fun _ => rfl
      have hN : nmMay [] = true := rfl
      have hZ : ([] : List UInt8).length = 0 := rfl
      try simp only [hS]
      rw [Bool.eq_iff_iff]
      simp [rrMay, rrBody, isName, word, *]
      try grind
    try simp only [sk] at hc3
    refine CW.seq ?_
    refine CW.region ?_
    refine W.p O.eqI ?_
    refine W.p O.as ?_
    refine WL.nil (Q.tn ?_)
    refine CW.cond (vt rfl) (fun hc4 => ?_) (fun hc4 => ?_)
    · try simp only [sk] at hc4
      refine CW.seq ?_
      refine CW.region ?_
      first | refine W.p O.fb ?_ | refine W.p O.fa ?_
      refine W.p O.ld ?_
      first | refine W.p O.fb ?_ | refine W.p O.fa ?_
      first | refine W.st (vt rfl) (vt rfl) rfl ?_ | refine W.st (u := .string _) (vt rfl) (vt rfl) rfl ?_
      refine WL.nil (Q.tn ?_)
      refine CW.region ?_
      first | refine W.p O.fb ?_ | refine W.p O.fa ?_
      refine W.p O.ld ?_
      first | refine W.p O.fb ?_ | refine W.p O.fa ?_
      first | refine W.st (vt rfl) (vt rfl) rfl ?_ | refine W.st (u := .int _ _) (vt rfl) (vt rfl) rfl ?_
      refine WL.nil (Q.bn (Q.tn ?_))
      refine CW.seq ?_
      refine CW.region ?_
      refine W.p O.lds ?_
      refine W.p O.lds ?_
      refine W.p O.eqT ?_
      refine W.p O.mv ?_
      first | refine W.p O.fb ?_ | refine W.p O.fa ?_
      refine W.p O.ld ?_
      refine W.q (O.call ⟨rfl, rfl⟩ (AV.cons (vs rfl) (AV.nil)) (fun _ w hw => ref_NameMay _ w (by omega))) ?_
      refine W.p O.pkB ?_
      refine W.p O.mv ?_
      first | refine W.p O.fb ?_ | refine W.p O.fa ?_
      refine W.p O.ld ?_
      refine W.p O.geq ?_
      refine W.p O.pkB ?_
      refine W.p O.mv ?_
      first | refine W.p O.fb ?_ | refine W.p O.fa ?_
      refine W.p O.ld ?_
      refine W.p O.leq ?_
      refine W.p O.pkB ?_
      refine W.p O.mv ?_
      first | refine W.p O.fb ?_ | refine W.p O.fa ?_
      refine W.p O.ld ?_
      refine W.q (O.call ⟨rfl, rfl⟩ (AV.cons (vs rfl) (AV.cons (vt rfl) (AV.nil))) (fun _ w hw => ref_within _ 32 w (by decide))) ?_
      refine W.p O.pkB ?_
      refine W.p O.mv ?_
      first | refine W.p O.fb ?_ | refine W.p O.fa ?_
      refine W.p O.ld ?_
      refine W.q (O.call ⟨rfl, rfl⟩ (AV.cons (vs rfl) (AV.nil)) (fun _ w hw => ref_NameMay _ w (by omega))) ?_
      refine W.p O.pkB ?_
      refine W.p O.mv ?_
      first | refine W.p O.fb ?_ | refine W.p O.fa ?_
      refine W.p O.ld ?_
      refine W.q (O.call ⟨rfl, rfl⟩ (AV.cons (vs rfl) (AV.cons (vt rfl) (AV.nil))) (fun _ w hw => ref_within _ 32 w (by decide))) ?_
      refine W.p O.pkB ?_
      refine W.p O.mv ?_
      first | refine W.p O.fb ?_ | refine W.p O.fa ?_
      refine W.p O.ld ?_
      refine W.p O.len ?_
      refine W.p O.leq ?_
      refine W.p O.pkB ?_
      refine W.p O.as ?_
      refine WL.nil (Q.tn ?_)
      refine CW.ret ?_
      refine ⟨_, [], (RVs.tmp rfl RVs.nil), List.nil_sublist _, ?_⟩
      refine ⟨congrArg Value.bool ?_, rfl⟩
      have hS : ∀ l : List UInt8, (S l).data.toList = l := fun _ => rfl
      have hN : nmMay [] = true := rfl
      have hZ : ([] : List UInt8).length = 0 := rfl
      try simp only [hS]
      rw [Bool.eq_iff_iff]
      simp [rrMay, rrBody, isName, word, *]
      try grind
    try simp only [sk] at hc4
    refine CW.seq ?_
    refine CW.seq ?_
    refine CW.region ?_
    refine W.p O.eqI ?_
    refine W.p O.as ?_
    refine WL.nil (Q.tn ?_)
    refine CW.cond (vt rfl) (fun hc5 => ?_) (fun hc5 => ?_)
    · try simp only [sk] at hc5
      refine CW.skip (Q.tn ?_)
      refine CW.cond (vt rfl) (fun hc6 => ?_) (fun hc6 => ?_)
      · try simp only [sk] at hc6
        refine CW.region ?_
        first | refine W.p O.fb ?_ | refine W.p O.fa ?_
        refine W.p O.ld ?_
        first | refine W.p O.fb ?_ | refine W.p O.fa ?_
        first | refine W.st (vt rfl) (vt rfl) rfl ?_ | refine W.st (u := .string _) (vt rfl) (vt rfl) rfl ?_
        refine WL.nil (Q.bn (Q.tn ?_))
        refine CW.seq ?_
        refine CW.region ?_
        refine W.p O.lds ?_
        refine W.p O.lds ?_
        refine W.p O.eqT ?_
        refine W.p O.mv ?_
        first | refine W.p O.fb ?_ | refine W.p O.fa ?_
        refine W.p O.ld ?_
        refine W.q (O.call ⟨rfl, rfl⟩ (AV.cons (vs rfl) (AV.nil)) (fun _ w hw => ref_NameMay _ w (by omega))) ?_
        refine W.p O.pkB ?_
        refine W.p O.mv ?_
        first | refine W.p O.fb ?_ | refine W.p O.fa ?_
        refine W.p O.ld ?_
        refine W.p O.geq ?_
        refine W.p O.pkB ?_
        refine W.p O.mv ?_
        first | refine W.p O.fb ?_ | refine W.p O.fa ?_
        refine W.p O.ld ?_
        refine W.p O.leq ?_
        refine W.p O.pkB ?_
        refine W.p O.mv ?_
        first | refine W.p O.fb ?_ | refine W.p O.fa ?_
        refine W.p O.ld ?_
        refine W.q (O.call ⟨rfl, rfl⟩ (AV.cons (vs rfl) (AV.cons (vt rfl) (AV.nil))) (fun _ w hw => ref_within _ 32 w (by decide))) ?_
        refine W.p O.pkB ?_
        refine W.p O.mv ?_
        first | refine W.p O.fb ?_ | refine W.p O.fa ?_
        refine W.p O.ld ?_
        refine W.q (O.call ⟨rfl, rfl⟩ (AV.cons (vs rfl) (AV.nil)) (fun _ w hw => ref_NameMay _ w (by omega))) ?_
        refine W.p O.pkB ?_
        refine W.p O.mv ?_
        first | refine W.p O.fb ?_ | refine W.p O.fa ?_
        refine W.p O.ld ?_
        refine W.q (O.call ⟨rfl, rfl⟩ (AV.cons (vs rfl) (AV.cons (vt rfl) (AV.nil))) (fun _ w hw => ref_within _ 32 w (by decide))) ?_
        refine W.p O.pkB ?_
        refine W.p O.mv ?_
        first | refine W.p O.fb ?_ | refine W.p O.fa ?_
        refine W.p O.ld ?_
        refine W.p O.len ?_
        refine W.p O.leq ?_
        refine W.p O.pkB ?_
        refine W.p O.as ?_
        refine WL.nil (Q.tn ?_)
        refine CW.ret ?_
        refine ⟨_, [], (RVs.tmp rfl RVs.nil), List.nil_sublist _, ?_⟩
        refine ⟨congrArg Value.bool ?_, rfl⟩
        have hS : ∀ l : List UInt8, (S l).data.toList = l := fun _ => rfl
        have hN : nmMay [] = true := rfl
        have hZ : ([] : List UInt8).length = 0 := rfl
        try simp only [hS]
        rw [Bool.eq_iff_iff]
        simp [rrMay, rrBody, isName, word, *]
        try grind
      try simp only [sk] at hc6
      refine CW.seq ?_
      refine CW.region ?_
      refine W.p O.as ?_
      refine WL.nil (Q.tn ?_)
      refine CW.ret (Q.br (Q.tr ?_))
      refine ⟨_, [], (RVs.tmp rfl RVs.nil), List.nil_sublist _, ?_⟩
      refine ⟨congrArg Value.bool ?_, rfl⟩
      have hS : ∀ l : List UInt8, (S l).data.toList = l := fun _ => rfl
      have hN : nmMay [] = true := rfl
      have hZ : ([] : List UInt8).length = 0 := rfl
      try simp only [hS]
      rw [Bool.eq_iff_iff]
      simp [rrMay, rrBody, isName, word, *]
      try grind
    try simp only [sk] at hc5
    refine CW.region ?_
    refine W.p O.eqI ?_
    refine W.p O.as ?_
    refine WL.nil (Q.tn ?_)
    refine CW.cond (vt rfl) (fun hc7 => ?_) (fun hc7 => ?_)
    · try simp only [sk] at hc7
      refine CW.region ?_
      first | refine W.p O.fb ?_ | refine W.p O.fa ?_
      refine W.p O.ld ?_
      first | refine W.p O.fb ?_ | refine W.p O.fa ?_
      first | refine W.st (vt rfl) (vt rfl) rfl ?_ | refine W.st (u := .string _) (vt rfl) (vt rfl) rfl ?_
      refine WL.nil (Q.bn (Q.tn ?_))
      refine CW.seq ?_
      refine CW.region ?_
      refine W.p O.lds ?_
      refine W.p O.lds ?_
      refine W.p O.eqT ?_
      refine W.p O.mv ?_
      first | refine W.p O.fb ?_ | refine W.p O.fa ?_
      refine W.p O.ld ?_
      refine W.q (O.call ⟨rfl, rfl⟩ (AV.cons (vs rfl) (AV.nil)) (fun _ w hw => ref_NameMay _ w (by omega))) ?_
      refine W.p O.pkB ?_
      refine W.p O.mv ?_
      first | refine W.p O.fb ?_ | refine W.p O.fa ?_
      refine W.p O.ld ?_
      refine W.p O.geq ?_
      refine W.p O.pkB ?_
      refine W.p O.mv ?_
      first | refine W.p O.fb ?_ | refine W.p O.fa ?_
      refine W.p O.ld ?_
      refine W.p O.leq ?_
      refine W.p O.pkB ?_
      refine W.p O.mv ?_
      first | refine W.p O.fb ?_ | refine W.p O.fa ?_
      refine W.p O.ld ?_
      refine W.q (O.call ⟨rfl, rfl⟩ (AV.cons (vs rfl) (AV.cons (vt rfl) (AV.nil))) (fun _ w hw => ref_within _ 32 w (by decide))) ?_
      refine W.p O.pkB ?_
      refine W.p O.mv ?_
      first | refine W.p O.fb ?_ | refine W.p O.fa ?_
      refine W.p O.ld ?_
      refine W.q (O.call ⟨rfl, rfl⟩ (AV.cons (vs rfl) (AV.nil)) (fun _ w hw => ref_NameMay _ w (by omega))) ?_
      refine W.p O.pkB ?_
      refine W.p O.mv ?_
      first | refine W.p O.fb ?_ | refine W.p O.fa ?_
      refine W.p O.ld ?_
      refine W.q (O.call ⟨rfl, rfl⟩ (AV.cons (vs rfl) (AV.cons (vt rfl) (AV.nil))) (fun _ w hw => ref_within _ 32 w (by decide))) ?_
      refine W.p O.pkB ?_
      refine W.p O.mv ?_
      first | refine W.p O.fb ?_ | refine W.p O.fa ?_
      refine W.p O.ld ?_
      refine W.p O.len ?_
      refine W.p O.leq ?_
      refine W.p O.pkB ?_
      refine W.p O.as ?_
      refine WL.nil (Q.tn ?_)
      refine CW.ret ?_
      refine ⟨_, [], (RVs.tmp rfl RVs.nil), List.nil_sublist _, ?_⟩
      refine ⟨congrArg Value.bool ?_, rfl⟩
      have hS : ∀ l : List UInt8, (S l).data.toList = l := fun _ => rfl
      have hN : nmMay [] = true := rfl
      have hZ : ([] : List UInt8).length = 0 := rfl
      try simp only [hS]
      rw [Bool.eq_iff_iff]
      simp [rrMay, rrBody, isName, word, *]
      try grind
    try simp only [sk] at hc7
    refine CW.seq ?_
    refine CW.region ?_
    refine W.p O.as ?_
    refine WL.nil (Q.tn ?_)
    refine CW.ret (Q.br (Q.tr ?_))
    refine ⟨_, [], (RVs.tmp rfl RVs.nil), List.nil_sublist _, ?_⟩
    refine ⟨congrArg Value.bool ?_, rfl⟩
    have hS : ∀ l : List UInt8, (S l).data.toList = l := fun _ => rfl
    have hN : nmMay [] = true := rfl
    have hZ : ([] : List UInt8).length = 0 := rfl
    try simp only [hS]
    rw [Bool.eq_iff_iff]
    simp [rrMay, rrBody, isName, word, *]
    try grind
  try simp only [sk] at hc2
  refine CW.seq ?_
  refine CW.region ?_
  refine W.p O.eqI ?_
  refine W.p O.as ?_
  refine WL.nil (Q.tn ?_)
  refine CW.cond (vt rfl) (fun hc8 => ?_) (fun hc8 => ?_)
  · try simp only [sk] at hc8
    refine CW.skip (Q.tn ?_)
    refine CW.cond (vt rfl) (fun hc9 => ?_) (fun hc9 => ?_)
    · try simp only [sk] at hc9
      refine CW.region ?_
      first | refine W.p O.fb ?_ | refine W.p O.fa ?_
      refine W.p O.ld ?_
      first | refine W.p O.fb ?_ | refine W.p O.fa ?_
      first | refine W.st (vt rfl) (vt rfl) rfl ?_ | refine W.st (u := .string _) (vt rfl) (vt rfl) rfl ?_
      refine WL.nil (Q.bn (Q.tn ?_))
      refine CW.seq ?_
      refine CW.region ?_
      refine W.p O.lds ?_
      refine W.p O.lds ?_
      refine W.p O.eqT ?_
      refine W.p O.mv ?_
      first | refine W.p O.fb ?_ | refine W.p O.fa ?_
      refine W.p O.ld ?_
      refine W.q (O.call ⟨rfl, rfl⟩ (AV.cons (vs rfl) (AV.nil)) (fun _ w hw => ref_NameMay _ w (by omega))) ?_
      refine W.p O.pkB ?_
      refine W.p O.mv ?_
      first | refine W.p O.fb ?_ | refine W.p O.fa ?_
      refine W.p O.ld ?_
      refine W.p O.geq ?_
      refine W.p O.pkB ?_
      refine W.p O.mv ?_
      first | refine W.p O.fb ?_ | refine W.p O.fa ?_
      refine W.p O.ld ?_
      refine W.p O.leq ?_
      refine W.p O.pkB ?_
      refine W.p O.mv ?_
      first | refine W.p O.fb ?_ | refine W.p O.fa ?_
      refine W.p O.ld ?_
      refine W.q (O.call ⟨rfl, rfl⟩ (AV.cons (vs rfl) (AV.cons (vt rfl) (AV.nil))) (fun _ w hw => ref_within _ 32 w (by decide))) ?_
      refine W.p O.pkB ?_
      refine W.p O.mv ?_
      first | refine W.p O.fb ?_ | refine W.p O.fa ?_
      refine W.p O.ld ?_
      refine W.q (O.call ⟨rfl, rfl⟩ (AV.cons (vs rfl) (AV.nil)) (fun _ w hw => ref_NameMay _ w (by omega))) ?_
      refine W.p O.pkB ?_
      refine W.p O.mv ?_
      first | refine W.p O.fb ?_ | refine W.p O.fa ?_
      refine W.p O.ld ?_
      refine W.q (O.call ⟨rfl, rfl⟩ (AV.cons (vs rfl) (AV.cons (vt rfl) (AV.nil))) (fun _ w hw => ref_within _ 32 w (by decide))) ?_
      refine W.p O.pkB ?_
      refine W.p O.mv ?_
      first | refine W.p O.fb ?_ | refine W.p O.fa ?_
      refine W.p O.ld ?_
      refine W.p O.len ?_
      refine W.p O.leq ?_
      refine W.p O.pkB ?_
      refine W.p O.as ?_
      refine WL.nil (Q.tn ?_)
      refine CW.ret ?_
      refine ⟨_, [], (RVs.tmp rfl RVs.nil), List.nil_sublist _, ?_⟩
      refine ⟨congrArg Value.bool ?_, rfl⟩
      have hS : ∀ l : List UInt8, (S l).data.toList = l := fun _ => rfl
      have hN : nmMay [] = true := rfl
      have hZ : ([] : List UInt8).length = 0 := rfl
      try simp only [hS]
      rw [Bool.eq_iff_iff]
      simp [rrMay, rrBody, isName, word, *]
      try grind
    try simp only [sk] at hc9
    refine CW.seq ?_
    refine CW.region ?_
    refine W.p O.eqI ?_
    refine W.p O.as ?_
    refine WL.nil (Q.tn ?_)
    refine CW.cond (vt rfl) (fun hc10 => ?_) (fun hc10 => ?_)
    · try simp only [sk] at hc10
      refine CW.seq ?_
      refine CW.region ?_
      first | refine W.p O.fb ?_ | refine W.p O.fa ?_
      refine W.p O.ld ?_
      first | refine W.p O.fb ?_ | refine W.p O.fa ?_
      first | refine W.st (vt rfl) (vt rfl) rfl ?_ | refine W.st (u := .string _) (vt rfl) (vt rfl) rfl ?_
      refine WL.nil (Q.tn ?_)
      refine CW.region ?_
      first | refine W.p O.fb ?_ | refine W.p O.fa ?_
      refine W.p O.ld ?_
      first | refine W.p O.fb ?_ | refine W.p O.fa ?_
      first | refine W.st (vt rfl) (vt rfl) rfl ?_ | refine W.st (u := .int _ _) (vt rfl) (vt rfl) rfl ?_
      refine WL.nil (Q.bn (Q.tn ?_))
      refine CW.seq ?_
      refine CW.region ?_
      refine W.p O.lds ?_
      refine W.p O.lds ?_
      refine W.p O.eqT ?_
      refine W.p O.mv ?_
      first | refine W.p O.fb ?_ | refine W.p O.fa ?_
      refine W.p O.ld ?_
      refine W.q (O.call ⟨rfl, rfl⟩ (AV.cons (vs rfl) (AV.nil)) (fun _ w hw => ref_NameMay _ w (by omega))) ?_
      refine W.p O.pkB ?_
      refine W.p O.mv ?_
      first | refine W.p O.fb ?_ | refine W.p O.fa ?_
      refine W.p O.ld ?_
      refine W.p O.geq ?_
      refine W.p O.pkB ?_
      refine W.p O.mv ?_
      first | refine W.p O.fb ?_ | refine W.p O.fa ?_
      refine W.p O.ld ?_
      refine W.p O.leq ?_
      refine W.p O.pkB ?_
      refine W.p O.mv ?_
      first | refine W.p O.fb ?_ | refine W.p O.fa ?_
      refine W.p O.ld ?_
      refine W.q (O.call ⟨rfl, rfl⟩ (AV.cons (vs rfl) (AV.cons (vt rfl) (AV.nil))) (fun _ w hw => ref_within _ 32 w (by decide))) ?_
      refine W.p O.pkB ?_
      refine W.p O.mv ?_
      first | refine W.p O.fb ?_ | refine W.p O.fa ?_
      refine W.p O.ld ?_
      refine W.q (O.call ⟨rfl, rfl⟩ (AV.cons (vs rfl) (AV.nil)) (fun _ w hw => ref_NameMay _ w (by omega))) ?_
      refine W.p O.pkB ?_
      refine W.p O.mv ?_
      first | refine W.p O.fb ?_ | refine W.p O.fa ?_
      refine W.p O.ld ?_
      refine W.q (O.call ⟨rfl, rfl⟩ (AV.cons (vs rfl) (AV.cons (vt rfl) (AV.nil))) (fun _ w hw => ref_within _ 32 w (by decide))) ?_
      refine W.p O.pkB ?_
      refine W.p O.mv ?_
      first | refine W.p O.fb ?_ | refine W.p O.fa ?_
      refine W.p O.ld ?_
      refine W.p O.len ?_
      refine W.p O.leq ?_
      refine W.p O.pkB ?_
      refine W.p O.as ?_
      refine WL.nil (Q.tn ?_)
      refine CW.ret ?_
      refine ⟨_, [], (RVs.tmp rfl RVs.nil), List.nil_sublist _, ?_⟩
      refine ⟨congrArg Value.bool ?_, rfl⟩
      have hS : ∀ l : List UInt8, (S l).data.toList = l := fun _ => rfl
      have hN : nmMay [] = true := rfl
      have hZ : ([] : List UInt8).length = 0 := rfl
      try simp only [hS]
      rw [Bool.eq_iff_iff]
      simp [rrMay, rrBody, isName, word, *]
      try grind
    try simp only [sk] at hc10
    refine CW.seq ?_
    refine CW.seq ?_
    refine CW.region ?_
    refine W.p O.eqI ?_
    refine W.p O.as ?_
    refine WL.nil (Q.tn ?_)
    refine CW.cond (vt rfl) (fun hc11 => ?_) (fun hc11 => ?_)
    · try simp only [sk] at hc11
      refine CW.skip (Q.tn ?_)
      refine CW.cond (vt rfl) (fun hc12 => ?_) (fun hc12 => ?_)
      · try simp only [sk] at hc12
        refine CW.region ?_
        first | refine W.p O.fb ?_ | refine W.p O.fa ?_
        refine W.p O.ld ?_
        first | refine W.p O.fb ?_ | refine W.p O.fa ?_
        first | refine W.st (vt rfl) (vt rfl) rfl ?_ | refine W.st (u := .string _) (vt rfl) (vt rfl) rfl ?_
        refine WL.nil (Q.bn (Q.tn ?_))
        refine CW.seq ?_
        refine CW.region ?_
        refine W.p O.lds ?_
        refine W.p O.lds ?_
        refine W.p O.eqT ?_
        refine W.p O.mv ?_
        first | refine W.p O.fb ?_ | refine W.p O.fa ?_
        refine W.p O.ld ?_
        refine W.q (O.call ⟨rfl, rfl⟩ (AV.cons (vs rfl) (AV.nil)) (fun _ w hw => ref_NameMay _ w (by omega))) ?_
        refine W.p O.pkB ?_
        refine W.p O.mv ?_
        first | refine W.p O.fb ?_ | refine W.p O.fa ?_
        refine W.p O.ld ?_
        refine W.p O.geq ?_
        refine W.p O.pkB ?_
        refine W.p O.mv ?_
        first | refine W.p O.fb ?_ | refine W.p O.fa ?_
        refine W.p O.ld ?_
        refine W.p O.leq ?_
        refine W.p O.pkB ?_
        refine W.p O.mv ?_
        first | refine W.p O.fb ?_ | refine W.p O.fa ?_
        refine W.p O.ld ?_
        refine W.q (O.call ⟨rfl, rfl⟩ (AV.cons (vs rfl) (AV.cons (vt rfl) (AV.nil))) (fun _ w hw => ref_within _ 32 w (by decide))) ?_
        refine W.p O.pkB ?_
        refine W.p O.mv ?_
        first | refine W.p O.fb ?_ | refine W.p O.fa ?_
        refine W.p O.ld ?_
        refine W.q (O.call ⟨rfl, rfl⟩ (AV.cons (vs rfl) (AV.nil)) (fun _ w hw => ref_NameMay _ w (by omega))) ?_
        refine W.p O.pkB ?_
        refine W.p O.mv ?_
        first | refine W.p O.fb ?_ | refine W.p O.fa ?_
        refine W.p O.ld ?_
        refine W.q (O.call ⟨rfl, rfl⟩ (AV.cons (vs rfl) (AV.cons (vt rfl) (AV.nil))) (fun _ w hw => ref_within _ 32 w (by decide))) ?_
        refine W.p O.pkB ?_
        refine W.p O.mv ?_
        first | refine W.p O.fb ?_ | refine W.p O.fa ?_
        refine W.p O.ld ?_
        refine W.p O.len ?_
        refine W.p O.leq ?_
        refine W.p O.pkB ?_
        refine W.p O.as ?_
        refine WL.nil (Q.tn ?_)
        refine CW.ret ?_
        refine ⟨_, [], (RVs.tmp rfl RVs.nil), List.nil_sublist _, ?_⟩
        refine ⟨congrArg Value.bool ?_, rfl⟩
        have hS : ∀ l : List UInt8, (S l).data.toList = l := fun _ => rfl
        have hN : nmMay [] = true := rfl
        have hZ : ([] : List UInt8).length = 0 := rfl
        try simp only [hS]
        rw [Bool.eq_iff_iff]
        simp [rrMay, rrBody, isName, word, *]
        try grind
      try simp only [sk] at hc12
      refine CW.seq ?_
      refine CW.region ?_
      refine W.p O.as ?_
      refine WL.nil (Q.tn ?_)
      refine CW.ret (Q.br (Q.tr ?_))
      refine ⟨_, [], (RVs.tmp rfl RVs.nil), List.nil_sublist _, ?_⟩
      refine ⟨congrArg Value.bool ?_, rfl⟩
      have hS : ∀ l : List UInt8, (S l).data.toList = l := fun _ => rfl
      have hN : nmMay [] = true := rfl
      have hZ : ([] : List UInt8).length = 0 := rfl
      try simp only [hS]
      rw [Bool.eq_iff_iff]
      simp [rrMay, rrBody, isName, word, *]
      try grind
    try simp only [sk] at hc11
    refine CW.region ?_
    refine W.p O.eqI ?_
    refine W.p O.as ?_
    refine WL.nil (Q.tn ?_)
    refine CW.cond (vt rfl) (fun hc13 => ?_) (fun hc13 => ?_)
    · try simp only [sk] at hc13
      refine CW.region ?_
      first | refine W.p O.fb ?_ | refine W.p O.fa ?_
      refine W.p O.ld ?_
      first | refine W.p O.fb ?_ | refine W.p O.fa ?_
      first | refine W.st (vt rfl) (vt rfl) rfl ?_ | refine W.st (u := .string _) (vt rfl) (vt rfl) rfl ?_
      refine WL.nil (Q.bn (Q.tn ?_))
      refine CW.seq ?_
      refine CW.region ?_
      refine W.p O.lds ?_
      refine W.p O.lds ?_
      refine W.p O.eqT ?_
      refine W.p O.mv ?_
      first | refine W.p O.fb ?_ | refine W.p O.fa ?_
      refine W.p O.ld ?_
      refine W.q (O.call ⟨rfl, rfl⟩ (AV.cons (vs rfl) (AV.nil)) (fun _ w hw => ref_NameMay _ w (by omega))) ?_
      refine W.p O.pkB ?_
      refine W.p O.mv ?_
      first | refine W.p O.fb ?_ | refine W.p O.fa ?_
      refine W.p O.ld ?_
      refine W.p O.geq ?_
      refine W.p O.pkB ?_
      refine W.p O.mv ?_
      first | refine W.p O.fb ?_ | refine W.p O.fa ?_
      refine W.p O.ld ?_
      refine W.p O.leq ?_
      refine W.p O.pkB ?_
      refine W.p O.mv ?_
      first | refine W.p O.fb ?_ | refine W.p O.fa ?_
      refine W.p O.ld ?_
      refine W.q (O.call ⟨rfl, rfl⟩ (AV.cons (vs rfl) (AV.cons (vt rfl) (AV.nil))) (fun _ w hw => ref_within _ 32 w (by decide))) ?_
      refine W.p O.pkB ?_
      refine W.p O.mv ?_
      first | refine W.p O.fb ?_ | refine W.p O.fa ?_
      refine W.p O.ld ?_
      refine W.q (O.call ⟨rfl, rfl⟩ (AV.cons (vs rfl) (AV.nil)) (fun _ w hw => ref_NameMay _ w (by omega))) ?_
      refine W.p O.pkB ?_
      refine W.p O.mv ?_
      first | refine W.p O.fb ?_ | refine W.p O.fa ?_
      refine W.p O.ld ?_
      refine W.q (O.call ⟨rfl, rfl⟩ (AV.cons (vs rfl) (AV.cons (vt rfl) (AV.nil))) (fun _ w hw => ref_within _ 32 w (by decide))) ?_
      refine W.p O.pkB ?_
      refine W.p O.mv ?_
      first | refine W.p O.fb ?_ | refine W.p O.fa ?_
      refine W.p O.ld ?_
      refine W.p O.len ?_
      refine W.p O.leq ?_
      refine W.p O.pkB ?_
      refine W.p O.as ?_
      refine WL.nil (Q.tn ?_)
      refine CW.ret ?_
      refine ⟨_, [], (RVs.tmp rfl RVs.nil), List.nil_sublist _, ?_⟩
      refine ⟨congrArg Value.bool ?_, rfl⟩
      have hS : ∀ l : List UInt8, (S l).data.toList = l := fun _ => rfl
      have hN : nmMay [] = true := rfl
      have hZ : ([] : List UInt8).length = 0 := rfl
      try simp only [hS]
      rw [Bool.eq_iff_iff]
      simp [rrMay, rrBody, isName, word, *]
      try grind
    try simp only [sk] at hc13
    refine CW.seq ?_
    refine CW.region ?_
    refine W.p O.as ?_
    refine WL.nil (Q.tn ?_)
    refine CW.ret (Q.br (Q.tr ?_))
    refine ⟨_, [], (RVs.tmp rfl RVs.nil), List.nil_sublist _, ?_⟩
    refine ⟨congrArg Value.bool ?_, rfl⟩
    have hS : ∀ l : List UInt8, (S l).data.toList = l := fun _ => rfl
    have hN : nmMay [] = true := rfl
    have hZ : ([] : List UInt8).length = 0 := rfl
    try simp only [hS]
    rw [Bool.eq_iff_iff]
    simp [rrMay, rrBody, isName, word, *]
    try grind
  try simp only [sk] at hc8
  refine CW.region ?_
  refine W.p O.eqI ?_
  refine W.p O.as ?_
  refine WL.nil (Q.tn ?_)
  refine CW.cond (vt rfl) (fun hc14 => ?_) (fun hc14 => ?_)
  · try simp only [sk] at hc14
    refine CW.region ?_
    first | refine W.p O.fb ?_ | refine W.p O.fa ?_
    refine W.p O.ld ?_
    first | refine W.p O.fb ?_ | refine W.p O.fa ?_
    first | refine W.st (vt rfl) (vt rfl) rfl ?_ | refine W.st (u := .string _) (vt rfl) (vt rfl) rfl ?_
    refine WL.nil (Q.bn (Q.tn ?_))
    refine CW.seq ?_
    refine CW.region ?_
    refine W.p O.lds ?_
    refine W.p O.lds ?_
    refine W.p O.eqT ?_
    refine W.p O.mv ?_
    first | refine W.p O.fb ?_ | refine W.p O.fa ?_
    refine W.p O.ld ?_
    refine W.q (O.call ⟨rfl, rfl⟩ (AV.cons (vs rfl) (AV.nil)) (fun _ w hw => ref_NameMay _ w (by omega))) ?_
    refine W.p O.pkB ?_
    refine W.p O.mv ?_
    first | refine W.p O.fb ?_ | refine W.p O.fa ?_
    refine W.p O.ld ?_
    refine W.p O.geq ?_
    refine W.p O.pkB ?_
    refine W.p O.mv ?_
    first | refine W.p O.fb ?_ | refine W.p O.fa ?_
    refine W.p O.ld ?_
    refine W.p O.leq ?_
    refine W.p O.pkB ?_
    refine W.p O.mv ?_
    first | refine W.p O.fb ?_ | refine W.p O.fa ?_
    refine W.p O.ld ?_
    refine W.q (O.call ⟨rfl, rfl⟩ (AV.cons (vs rfl) (AV.cons (vt rfl) (AV.nil))) (fun _ w hw => ref_within _ 32 w (by decide))) ?_
    refine W.p O.pkB ?_
    refine W.p O.mv ?_
    first | refine W.p O.fb ?_ | refine W.p O.fa ?_
    refine W.p O.ld ?_
    refine W.q (O.call ⟨rfl, rfl⟩ (AV.cons (vs rfl) (AV.nil)) (fun _ w hw => ref_NameMay _ w (by omega))) ?_
    refine W.p O.pkB ?_
    refine W.p O.mv ?_
    first | refine W.p O.fb ?_ | refine W.p O.fa ?_
    refine W.p O.ld ?_
    refine W.q (O.call ⟨rfl, rfl⟩ (AV.cons (vs rfl) (AV.cons (vt rfl) (AV.nil))) (fun _ w hw => ref_within _ 32 w (by decide))) ?_
    refine W.p O.pkB ?_
    refine W.p O.mv ?_
    first | refine W.p O.fb ?_ | refine W.p O.fa ?_
    refine W.p O.ld ?_
    refine W.p O.len ?_
    refine W.p O.leq ?_
    refine W.p O.pkB ?_
    refine W.p O.as ?_
    refine WL.nil (Q.tn ?_)
    refine CW.ret ?_
    refine ⟨_, [], (RVs.tmp rfl RVs.nil), List.nil_sublist _, ?_⟩
    refine ⟨congrArg Value.bool ?_, rfl⟩
    have hS : ∀ l : List UInt8, (S l).data.toList = l := fun _ => rfl
    have hN : nmMay [] = true := rfl
    have hZ : ([] : List UInt8).length = 0 := rfl
    try simp only [hS]
    rw [Bool.eq_iff_iff]
    simp [rrMay, rrBody, isName, word, *]
    try grind
  try simp only [sk] at hc14
  refine CW.seq ?_
  refine CW.region ?_
  refine W.p O.eqI ?_
  refine W.p O.as ?_
  refine WL.nil (Q.tn ?_)
  refine CW.cond (vt rfl) (fun hc15 => ?_) (fun hc15 => ?_)
  · try simp only [sk] at hc15
    refine CW.seq ?_
    refine CW.region ?_
    first | refine W.p O.fb ?_ | refine W.p O.fa ?_
    refine W.p O.ld ?_
    first | refine W.p O.fb ?_ | refine W.p O.fa ?_
    first | refine W.st (vt rfl) (vt rfl) rfl ?_ | refine W.st (u := .string _) (vt rfl) (vt rfl) rfl ?_
    refine WL.nil (Q.tn ?_)
    refine CW.region ?_
    first | refine W.p O.fb ?_ | refine W.p O.fa ?_
    refine W.p O.ld ?_
    first | refine W.p O.fb ?_ | refine W.p O.fa ?_
    first | refine W.st (vt rfl) (vt rfl) rfl ?_ | refine W.st (u := .int _ _) (vt rfl) (vt rfl) rfl ?_
    refine WL.nil (Q.bn (Q.tn ?_))
    refine CW.seq ?_
    refine CW.region ?_
    refine W.p O.lds ?_
    refine W.p O.lds ?_
    refine W.p O.eqT ?_
    refine W.p O.mv ?_
    first | refine W.p O.fb ?_ | refine W.p O.fa ?_
    refine W.p O.ld ?_
    refine W.q (O.call ⟨rfl, rfl⟩ (AV.cons (vs rfl) (AV.nil)) (fun _ w hw => ref_NameMay _ w (by omega))) ?_
    refine W.p O.pkB ?_
    refine W.p O.mv ?_
    first | refine W.p O.fb ?_ | refine W.p O.fa ?_
    refine W.p O.ld ?_
    refine W.p O.geq ?_
    refine W.p O.pkB ?_
    refine W.p O.mv ?_
    first | refine W.p O.fb ?_ | refine W.p O.fa ?_
    refine W.p O.ld ?_
    refine W.p O.leq ?_
    refine W.p O.pkB ?_
    refine W.p O.mv ?_
    first | refine W.p O.fb ?_ | refine W.p O.fa ?_
    refine W.p O.ld ?_
    refine W.q (O.call ⟨rfl, rfl⟩ (AV.cons (vs rfl) (AV.cons (vt rfl) (AV.nil))) (fun _ w hw => ref_within _ 32 w (by decide))) ?_
    refine W.p O.pkB ?_
    refine W.p O.mv ?_
    first | refine W.p O.fb ?_ | refine W.p O.fa ?_
    refine W.p O.ld ?_
    refine W.q (O.call ⟨rfl, rfl⟩ (AV.cons (vs rfl) (AV.nil)) (fun _ w hw => ref_NameMay _ w (by omega))) ?_
    refine W.p O.pkB ?_
    refine W.p O.mv ?_
    first | refine W.p O.fb ?_ | refine W.p O.fa ?_
    refine W.p O.ld ?_
    refine W.q (O.call ⟨rfl, rfl⟩ (AV.cons (vs rfl) (AV.cons (vt rfl) (AV.nil))) (fun _ w hw => ref_within _ 32 w (by decide))) ?_
    refine W.p O.pkB ?_
    refine W.p O.mv ?_
    first | refine W.p O.fb ?_ | refine W.p O.fa ?_
    refine W.p O.ld ?_
    refine W.p O.len ?_
    refine W.p O.leq ?_
    refine W.p O.pkB ?_
    refine W.p O.as ?_
    refine WL.nil (Q.tn ?_)
    refine CW.ret ?_
    refine ⟨_, [], (RVs.tmp rfl RVs.nil), List.nil_sublist _, ?_⟩
    refine ⟨congrArg Value.bool ?_, rfl⟩
    have hS : ∀ l : List UInt8, (S l).data.toList = l := fun _ => rfl
    have hN : nmMay [] = true := rfl
    have hZ : ([] : List UInt8).length = 0 := rfl
    try simp only [hS]
    rw [Bool.eq_iff_iff]
    simp [rrMay, rrBody, isName, word, *]
    try grind
  try simp only [sk] at hc15
  refine CW.seq ?_
  refine CW.seq ?_
  refine CW.region ?_
  refine W.p O.eqI ?_
  refine W.p O.as ?_
  refine WL.nil (Q.tn ?_)
  refine CW.cond (vt rfl) (fun hc16 => ?_) (fun hc16 => ?_)
  · try simp only [sk] at hc16
    refine CW.skip (Q.tn ?_)
    refine CW.cond (vt rfl) (fun hc17 => ?_) (fun hc17 => ?_)
    · try simp only [sk] at hc17
      refine CW.region ?_
      first | refine W.p O.fb ?_ | refine W.p O.fa ?_
      refine W.p O.ld ?_
      first | refine W.p O.fb ?_ | refine W.p O.fa ?_
      first | refine W.st (vt rfl) (vt rfl) rfl ?_ | refine W.st (u := .string _) (vt rfl) (vt rfl) rfl ?_
      refine WL.nil (Q.bn (Q.tn ?_))
      refine CW.seq ?_
      refine CW.region ?_
      refine W.p O.lds ?_
      refine W.p O.lds ?_
      refine W.p O.eqT ?_
      refine W.p O.mv ?_
      first | refine W.p O.fb ?_ | refine W.p O.fa ?_
      refine W.p O.ld ?_
      refine W.q (O.call ⟨rfl, rfl⟩ (AV.cons (vs rfl) (AV.nil)) (fun _ w hw => ref_NameMay _ w (by omega))) ?_
      refine W.p O.pkB ?_
      refine W.p O.mv ?_
      first | refine W.p O.fb ?_ | refine W.p O.fa ?_
      refine W.p O.ld ?_
      refine W.p O.geq ?_
      refine W.p O.pkB ?_
      refine W.p O.mv ?_
      first | refine W.p O.fb ?_ | refine W.p O.fa ?_
      refine W.p O.ld ?_
      refine W.p O.leq ?_
      refine W.p O.pkB ?_
      refine W.p O.mv ?_
      first | refine W.p O.fb ?_ | refine W.p O.fa ?_
      refine W.p O.ld ?_
      refine W.q (O.call ⟨rfl, rfl⟩ (AV.cons (vs rfl) (AV.cons (vt rfl) (AV.nil))) (fun _ w hw => ref_within _ 32 w (by decide))) ?_
      refine W.p O.pkB ?_
      refine W.p O.mv ?_
      first | refine W.p O.fb ?_ | refine W.p O.fa ?_
      refine W.p O.ld ?_
      refine W.q (O.call ⟨rfl, rfl⟩ (AV.cons (vs rfl) (AV.nil)) (fun _ w hw => ref_NameMay _ w (by omega))) ?_
      refine W.p O.pkB ?_
      refine W.p O.mv ?_
      first | refine W.p O.fb ?_ | refine W.p O.fa ?_
      refine W.p O.ld ?_
      refine W.q (O.call ⟨rfl, rfl⟩ (AV.cons (vs rfl) (AV.cons (vt rfl) (AV.nil))) (fun _ w hw => ref_within _ 32 w (by decide))) ?_
      refine W.p O.pkB ?_
      refine W.p O.mv ?_
      first | refine W.p O.fb ?_ | refine W.p O.fa ?_
      refine W.p O.ld ?_
      refine W.p O.len ?_
      refine W.p O.leq ?_
      refine W.p O.pkB ?_
      refine W.p O.as ?_
      refine WL.nil (Q.tn ?_)
      refine CW.ret ?_
      refine ⟨_, [], (RVs.tmp rfl RVs.nil), List.nil_sublist _, ?_⟩
      refine ⟨congrArg Value.bool ?_, rfl⟩
      have hS : ∀ l : List UInt8, (S l).data.toList = l := fun _ => rfl
      have hN : nmMay [] = true := rfl
      have hZ : ([] : List UInt8).length = 0 := rfl
      try simp only [hS]
      rw [Bool.eq_iff_iff]
      simp [rrMay, rrBody, isName, word, *]
      try grind
    try simp only [sk] at hc17
    refine CW.seq ?_
    refine CW.region ?_
    refine W.p O.as ?_
    refine WL.nil (Q.tn ?_)
    refine CW.ret (Q.br (Q.tr ?_))
    refine ⟨_, [], (RVs.tmp rfl RVs.nil), List.nil_sublist _, ?_⟩
    refine ⟨congrArg Value.bool ?_, rfl⟩
    have hS : ∀ l : List UInt8, (S l).data.toList = l := fun _ => rfl
    have hN : nmMay [] = true := rfl
    have hZ : ([] : List UInt8).length = 0 := rfl
    try simp only [hS]
    rw [Bool.eq_iff_iff]
    simp [rrMay, rrBody, isName, word, *]
    try grind
  try simp only [sk] at hc16
  refine CW.region ?_
  refine W.p O.eqI ?_
  refine W.p O.as ?_
  refine WL.nil (Q.tn ?_)
  refine CW.cond (vt rfl) (fun hc18 => ?_) (fun hc18 => ?_)
  · try simp only [sk] at hc18
    refine CW.region ?_
    first | refine W.p O.fb ?_ | refine W.p O.fa ?_
    refine W.p O.ld ?_
    first | refine W.p O.fb ?_ | refine W.p O.fa ?_
    first | refine W.st (vt rfl) (vt rfl) rfl ?_ | refine W.st (u := .string _) (vt rfl) (vt rfl) rfl ?_
    refine WL.nil (Q.bn (Q.tn ?_))
    refine CW.seq ?_
    refine CW.region ?_
    refine W.p O.lds ?_
    refine W.p O.lds ?_
    refine W.p O.eqT ?_
    refine W.p O.mv ?_
    first | refine W.p O.fb ?_ | refine W.p O.fa ?_
    refine W.p O.ld ?_
    refine W.q (O.call ⟨rfl, rfl⟩ (AV.cons (vs rfl) (AV.nil)) (fun _ w hw => ref_NameMay _ w (by omega))) ?_
    refine W.p O.pkB ?_
    refine W.p O.mv ?_
    first | refine W.p O.fb ?_ | refine W.p O.fa ?_
    refine W.p O.ld ?_
    refine W.p O.geq ?_
    refine W.p O.pkB ?_
    refine W.p O.mv ?_
    first | refine W.p O.fb ?_ | refine W.p O.fa ?_
    refine W.p O.ld ?_
    refine W.p O.leq ?_
    refine W.p O.pkB ?_
    refine W.p O.mv ?_
    first | refine W.p O.fb ?_ | refine W.p O.fa ?_
    refine W.p O.ld ?_
    refine W.q (O.call ⟨rfl, rfl⟩ (AV.cons (vs rfl) (AV.cons (vt rfl) (AV.nil))) (fun _ w hw => ref_within _ 32 w (by decide))) ?_
    refine W.p O.pkB ?_
    refine W.p O.mv ?_
    first | refine W.p O.fb ?_ | refine W.p O.fa ?_
    refine W.p O.ld ?_
    refine W.q (O.call ⟨rfl, rfl⟩ (AV.cons (vs rfl) (AV.nil)) (fun _ w hw => ref_NameMay _ w (by omega))) ?_
    refine W.p O.pkB ?_
    refine W.p O.mv ?_
    first | refine W.p O.fb ?_ | refine W.p O.fa ?_
    refine W.p O.ld ?_
    refine W.q (O.call ⟨rfl, rfl⟩ (AV.cons (vs rfl) (AV.cons (vt rfl) (AV.nil))) (fun _ w hw => ref_within _ 32 w (by decide))) ?_
    refine W.p O.pkB ?_
    refine W.p O.mv ?_
    first | refine W.p O.fb ?_ | refine W.p O.fa ?_
    refine W.p O.ld ?_
    refine W.p O.len ?_
    refine W.p O.leq ?_
    refine W.p O.pkB ?_
    refine W.p O.as ?_
    refine WL.nil (Q.tn ?_)
    refine CW.ret ?_
    refine ⟨_, [], (RVs.tmp rfl RVs.nil), List.nil_sublist _, ?_⟩
    refine ⟨congrArg Value.bool ?_, rfl⟩
    have hS : ∀ l : List UInt8, (S l).data.toList = l := fun _ => rfl
    have hN : nmMay [] = true := rfl
    have hZ : ([] : List UInt8).length = 0 := rfl
    try simp only [hS]
    rw [Bool.eq_iff_iff]
    simp [rrMay, rrBody, isName, word, *]
    try grind
  try simp only [sk] at hc18
  refine CW.seq ?_
  refine CW.region ?_
  refine W.p O.as ?_
  refine WL.nil (Q.tn ?_)
  refine CW.ret (Q.br (Q.tr ?_))
  refine ⟨_, [], (RVs.tmp rfl RVs.nil), List.nil_sublist _, ?_⟩
  refine ⟨congrArg Value.bool ?_, rfl⟩
  have hS : ∀ l : List UInt8, (S l).data.toList = l := fun _ => rfl
  have hN : nmMay [] = true := rfl
  have hZ : ([] : List UInt8).length = 0 := rfl
  try simp only [hS]
  rw [Bool.eq_iff_iff]
  simp [rrMay, rrBody, isName, word, *]
  try grind
end Go.Proofs.YtagiajnpnjakhaaDoor
