/- What packages lease, serial and parts of conf and ident come to. Condition: the texts are not longer than some 2^46 bytes. -/
import Derived.Test.YtagiajnpnjakhaaDoorZnE
import Derived.Test.YtagiajnpnjakhaaDoorCv
set_option linter.unusedVariables false
set_option linter.unusedSimpArgs false
namespace Go.Proofs.YtagiajnpnjakhaaDoor
open Go Go.RowKit
set_option maxRecDepth 100000 in
theorem ls_Time (t : Int) (w : World) : Fn Tryd.prog 44 [.int .i64 t] w [] fun v L' => v = .bool (inZ t 0 1099511627776) ∧ L' = [] := by
  refine Fn.enter Tryd.func44 rfl rfl rfl rfl (Holds.nil w) ?_
  refine CW.seq ?_
  refine CW.region ?_
  refine W.p O.as ?_
  refine WL.nil (Q.tn ?_)
  refine CW.seq ?_
  refine CW.region ?_
  refine W.p O.mv ?_
  refine W.p O.geq ?_
  refine W.p O.mv ?_
  refine W.p O.mv ?_
  refine W.p O.leq ?_
  refine W.p O.pkB ?_
  refine W.p O.as ?_
  refine WL.nil (Q.tn ?_)
  refine CW.ret ?_
  refine ⟨_, [], (RVs.tmp rfl RVs.nil), List.nil_sublist _, ?_⟩
  refine ⟨congrArg Value.bool ?_, rfl⟩
  rw [inZ]; cases decide (0 ≤ t) <;> rfl
set_option maxRecDepth 100000 in
theorem ls_state {p : Option Addr} (l : Lz) (w : World) (hi : In w p (encL l)) : Fn Tryd.prog 99 [.pointer p] w [] fun v L' => v = .bool (lzSt l) ∧ L' = [] := by
  obtain ⟨q, rfl⟩ := hi.adr (by simp)
  have call : ∀ {L : Heap}, Cells w [] L q 6 (encL l) := fun {L} => cellsO hi rfl (by decide)
  have c1 : ∀ {L : Heap}, Cell w [] L (q.add 1) (.int .i64 l.state) := fun {L} => cellQ hi rfl
  have c2 : ∀ {L : Heap}, Cell w [] L (q.add 2) (.string (S l.client)) := fun {L} => cellQ hi rfl
  have c4 : ∀ {L : Heap}, Cell w [] L (q.add 4) (.string (S l.name)) := fun {L} => cellQ hi rfl
  have c5 : ∀ {L : Heap}, Cell w [] L (q.add 5) (.bool l.won) := fun {L} => cellQ hi rfl
  refine Fn.enter Tryd.func99 rfl rfl rfl rfl (Holds.nil w) ?_
  refine CW.seq ?_
  refine CW.region ?_
  refine W.p O.as ?_
  refine WL.nil (Q.tn ?_)
  refine CW.seq ?_
  refine CW.seq ?_
  refine CW.region ?_
  refine W.p O.mv ?_
  refine W.p O.nc ?_
  first | refine W.p O.fb ?_ | refine W.p O.fa ?_
  first | refine W.p O.ld ?_ | refine W.p O.ldC ?_
  refine WL.nil (Q.tn ?_)
  refine CW.block ?_
  refine CW.seq ?_
  refine CW.seq ?_
  refine CW.region ?_
  refine W.p O.eqI ?_
  refine W.p O.as ?_
  refine WL.nil (Q.tn ?_)
  refine CW.cond (vt rfl) (fun hc1 => ?_) (fun hc1 => ?_)
  · try simp only [sk] at hc1
    refine CW.skip (Q.tn ?_)
    refine CW.cond (vt rfl) (fun hc2 => ?_) (fun hc2 => ?_)
    · try simp only [sk] at hc2
      refine CW.seq ?_
      refine CW.region ?_
      refine W.p O.mv ?_
      refine W.p O.nc ?_
      first | refine W.p O.fb ?_ | refine W.p O.fa ?_
      first | refine W.p O.ld ?_ | refine W.p O.ldC ?_
      refine W.p O.eqS ?_
      refine W.p O.mv ?_
      refine W.p O.mv ?_
      refine W.p O.nc ?_
      first | refine W.p O.fb ?_ | refine W.p O.fa ?_
      first | refine W.p O.ld ?_ | refine W.p O.ldC ?_
      refine W.p O.nt ?_
      refine W.p O.pkB ?_
      refine W.p O.as ?_
      refine WL.nil (Q.tn ?_)
      refine CW.ret (Q.br (Q.tr ?_))
      refine ⟨_, [], (RVs.tmp rfl RVs.nil), List.nil_sublist _, ?_⟩
      refine ⟨congrArg Value.bool ?_, rfl⟩
      rw [Bool.eq_iff_iff]
      simp [lzSt, *]
      try grind
    try simp only [sk] at hc2
    refine CW.seq ?_
    refine CW.region ?_
    refine W.p O.eqI ?_
    refine W.p O.as ?_
    refine WL.nil (Q.tn ?_)
    refine CW.cond (vt rfl) (fun hc3 => ?_) (fun hc3 => ?_)
    · try simp only [sk] at hc3
      refine CW.seq ?_
      refine CW.region ?_
      refine W.p O.mv ?_
      refine W.p O.nc ?_
      first | refine W.p O.fb ?_ | refine W.p O.fa ?_
      first | refine W.p O.ld ?_ | refine W.p O.ldC ?_
      refine W.p O.neS ?_
      refine W.p O.mv ?_
      refine W.p O.mv ?_
      refine W.p O.nc ?_
      first | refine W.p O.fb ?_ | refine W.p O.fa ?_
      first | refine W.p O.ld ?_ | refine W.p O.ldC ?_
      refine W.p O.eqS ?_
      refine W.p O.pkB ?_
      refine W.p O.mv ?_
      refine W.p O.mv ?_
      refine W.p O.nc ?_
      first | refine W.p O.fb ?_ | refine W.p O.fa ?_
      first | refine W.p O.ld ?_ | refine W.p O.ldC ?_
      refine W.p O.nt ?_
      refine W.p O.pkB ?_
      refine W.p O.as ?_
      refine WL.nil (Q.tn ?_)
      refine CW.ret (Q.br (Q.tr ?_))
      refine ⟨_, [], (RVs.tmp rfl RVs.nil), List.nil_sublist _, ?_⟩
      refine ⟨congrArg Value.bool ?_, rfl⟩
      rw [Bool.eq_iff_iff]
      simp [lzSt, *]
      try grind
    try simp only [sk] at hc3
    refine CW.seq ?_
    refine CW.region ?_
    refine W.p O.eqI ?_
    refine W.p O.as ?_
    refine WL.nil (Q.tn ?_)
    refine CW.cond (vt rfl) (fun hc4 => ?_) (fun hc4 => ?_)
    · try simp only [sk] at hc4
      refine CW.seq ?_
      refine CW.region ?_
      refine W.p O.mv ?_
      refine W.p O.nc ?_
      first | refine W.p O.fb ?_ | refine W.p O.fa ?_
      first | refine W.p O.ld ?_ | refine W.p O.ldC ?_
      refine W.p O.neS ?_
      refine W.p O.mv ?_
      refine W.p O.mv ?_
      refine W.p O.nc ?_
      first | refine W.p O.fb ?_ | refine W.p O.fa ?_
      first | refine W.p O.ld ?_ | refine W.p O.ldC ?_
      refine W.p O.neS ?_
      refine W.p O.mv ?_
      refine W.p O.mv ?_
      refine W.p O.nc ?_
      first | refine W.p O.fb ?_ | refine W.p O.fa ?_
      first | refine W.p O.ld ?_ | refine W.p O.ldC ?_
      refine W.p O.nt ?_
      refine W.p O.pkB ?_
      refine W.p O.pkB ?_
      refine W.p O.as ?_
      refine WL.nil (Q.tn ?_)
      refine CW.ret (Q.br (Q.tr ?_))
      refine ⟨_, [], (RVs.tmp rfl RVs.nil), List.nil_sublist _, ?_⟩
      refine ⟨congrArg Value.bool ?_, rfl⟩
      rw [Bool.eq_iff_iff]
      simp [lzSt, *]
      try grind
    try simp only [sk] at hc4
    refine CW.skip (Q.bn (Q.tn ?_))
    refine CW.seq ?_
    refine CW.region ?_
    refine W.p O.as ?_
    refine WL.nil (Q.tn ?_)
    refine CW.ret ?_
    refine ⟨_, [], (RVs.tmp rfl RVs.nil), List.nil_sublist _, ?_⟩
    refine ⟨congrArg Value.bool ?_, rfl⟩
    rw [Bool.eq_iff_iff]
    simp [lzSt, *]
    try grind
  try simp only [sk] at hc1
  refine CW.region ?_
  refine W.p O.eqI ?_
  refine W.p O.as ?_
  refine WL.nil (Q.tn ?_)
  refine CW.cond (vt rfl) (fun hc5 => ?_) (fun hc5 => ?_)
  · try simp only [sk] at hc5
    refine CW.seq ?_
    refine CW.region ?_
    refine W.p O.mv ?_
    refine W.p O.nc ?_
    first | refine W.p O.fb ?_ | refine W.p O.fa ?_
    first | refine W.p O.ld ?_ | refine W.p O.ldC ?_
    refine W.p O.eqS ?_
    refine W.p O.mv ?_
    refine W.p O.mv ?_
    refine W.p O.nc ?_
    first | refine W.p O.fb ?_ | refine W.p O.fa ?_
    first | refine W.p O.ld ?_ | refine W.p O.ldC ?_
    refine W.p O.nt ?_
    refine W.p O.pkB ?_
    refine W.p O.as ?_
    refine WL.nil (Q.tn ?_)
    refine CW.ret (Q.br (Q.tr ?_))
    refine ⟨_, [], (RVs.tmp rfl RVs.nil), List.nil_sublist _, ?_⟩
    refine ⟨congrArg Value.bool ?_, rfl⟩
    rw [Bool.eq_iff_iff]
    simp [lzSt, *]
    try grind
  try simp only [sk] at hc5
  refine CW.seq ?_
  refine CW.region ?_
  refine W.p O.eqI ?_
  refine W.p O.as ?_
  refine WL.nil (Q.tn ?_)
  refine CW.cond (vt rfl) (fun hc6 => ?_) (fun hc6 => ?_)
  · try simp only [sk] at hc6
    refine CW.seq ?_
    refine CW.region ?_
    refine W.p O.mv ?_
    refine W.p O.nc ?_
    first | refine W.p O.fb ?_ | refine W.p O.fa ?_
    first | refine W.p O.ld ?_ | refine W.p O.ldC ?_
    refine W.p O.neS ?_
    refine W.p O.mv ?_
    refine W.p O.mv ?_
    refine W.p O.nc ?_
    first | refine W.p O.fb ?_ | refine W.p O.fa ?_
    first | refine W.p O.ld ?_ | refine W.p O.ldC ?_
    refine W.p O.eqS ?_
    refine W.p O.pkB ?_
    refine W.p O.mv ?_
    refine W.p O.mv ?_
    refine W.p O.nc ?_
    first | refine W.p O.fb ?_ | refine W.p O.fa ?_
    first | refine W.p O.ld ?_ | refine W.p O.ldC ?_
    refine W.p O.nt ?_
    refine W.p O.pkB ?_
    refine W.p O.as ?_
    refine WL.nil (Q.tn ?_)
    refine CW.ret (Q.br (Q.tr ?_))
    refine ⟨_, [], (RVs.tmp rfl RVs.nil), List.nil_sublist _, ?_⟩
    refine ⟨congrArg Value.bool ?_, rfl⟩
    rw [Bool.eq_iff_iff]
    simp [lzSt, *]
    try grind
  try simp only [sk] at hc6
  refine CW.seq ?_
  refine CW.region ?_
  refine W.p O.eqI ?_
  refine W.p O.as ?_
  refine WL.nil (Q.tn ?_)
  refine CW.cond (vt rfl) (fun hc7 => ?_) (fun hc7 => ?_)
  · try simp only [sk] at hc7
    refine CW.seq ?_
    refine CW.region ?_
    refine W.p O.mv ?_
    refine W.p O.nc ?_
    first | refine W.p O.fb ?_ | refine W.p O.fa ?_
    first | refine W.p O.ld ?_ | refine W.p O.ldC ?_
    refine W.p O.neS ?_
    refine W.p O.mv ?_
    refine W.p O.mv ?_
    refine W.p O.nc ?_
    first | refine W.p O.fb ?_ | refine W.p O.fa ?_
    first | refine W.p O.ld ?_ | refine W.p O.ldC ?_
    refine W.p O.neS ?_
    refine W.p O.mv ?_
    refine W.p O.mv ?_
    refine W.p O.nc ?_
    first | refine W.p O.fb ?_ | refine W.p O.fa ?_
    first | refine W.p O.ld ?_ | refine W.p O.ldC ?_
    refine W.p O.nt ?_
    refine W.p O.pkB ?_
    refine W.p O.pkB ?_
    refine W.p O.as ?_
    refine WL.nil (Q.tn ?_)
    refine CW.ret (Q.br (Q.tr ?_))
    refine ⟨_, [], (RVs.tmp rfl RVs.nil), List.nil_sublist _, ?_⟩
    refine ⟨congrArg Value.bool ?_, rfl⟩
    rw [Bool.eq_iff_iff]
    simp [lzSt, *]
    try grind
  try simp only [sk] at hc7
  refine CW.skip (Q.bn (Q.tn ?_))
  refine CW.seq ?_
  refine CW.region ?_
  refine W.p O.as ?_
  refine WL.nil (Q.tn ?_)
  refine CW.ret ?_
  refine ⟨_, [], (RVs.tmp rfl RVs.nil), List.nil_sublist _, ?_⟩
  refine ⟨congrArg Value.bool ?_, rfl⟩
  rw [Bool.eq_iff_iff]
  simp [lzSt, *]
  try grind
set_option maxRecDepth 100000 in
theorem ls_May (l : Lz) (w : World) (h : l.name.length ≤ 140737488355328) : Fn Tryd.prog 78 [vL l] w [] fun v L' => v = .bool (lzMay l) ∧ L' = [] := by
  refine Fn.enter Tryd.func78 rfl rfl rfl rfl (Holds.nil w) ?_
  refine CW.seq ?_
  refine CW.region ?_
  refine W.bx rfl (vt rfl) rfl fun b1 => ?_
  refine W.p O.as ?_
  refine WL.nil (Q.tn ?_)
  refine CW.seq ?_
  refine CW.region ?_
  first | refine W.p O.fb ?_ | refine W.p O.fa ?_
  refine W.p O.ld ?_
  refine W.p O.geq ?_
  refine W.p O.mv ?_
  first | refine W.p O.fb ?_ | refine W.p O.fa ?_
  refine W.p O.ld ?_
  refine W.p O.leq ?_
  refine W.p O.pkB ?_
  refine W.p O.mv ?_
  refine W.q (O.call ⟨rfl, rfl⟩ (AV.cons (vt rfl) (AV.nil)) (fun _ w hw => ls_state l w (in_blk hw))) ?_
  refine W.p O.pkB ?_
  refine W.p O.mv ?_
  first | refine W.p O.fb ?_ | refine W.p O.fa ?_
  refine W.p O.ld ?_
  refine W.p O.len ?_
  refine W.p O.leq ?_
  refine W.p O.pkB ?_
  refine W.p O.mv ?_
  first | refine W.p O.fb ?_ | refine W.p O.fa ?_
  refine W.p O.ld ?_
  refine W.q (O.call ⟨rfl, rfl⟩ (AV.cons (vs rfl) (AV.nil)) (fun _ w hw => ls_Time _ w)) ?_
  refine W.p O.pkB ?_
  refine W.p O.mv ?_
  first | refine W.p O.fb ?_ | refine W.p O.fa ?_
  refine W.p O.ld ?_
  refine W.q (O.call ⟨rfl, rfl⟩ (AV.cons (vs rfl) (AV.nil)) (fun _ w hw => nm_May _ w (by omega))) ?_
  refine W.p O.pkB ?_
  refine W.p O.as ?_
  refine WL.nil (Q.tn ?_)
  refine CW.ret ?_
  refine ⟨_, [], (RVs.tmp rfl RVs.nil), List.nil_sublist _, ?_⟩
  refine ⟨congrArg Value.bool ?_, rfl⟩
  rw [Bool.eq_iff_iff]
  simp [lzMay, inZ, *]
  try grind
set_option maxRecDepth 100000 in
theorem ls_Live (l : Lz) (now : Int) (w : World) (h : l.name.length ≤ 140737488355328) : Fn Tryd.prog 101 [vL l, .int .i64 now] w [] fun v L' => v = .bool (live l now) ∧ L' = [] := by
  refine Fn.enter Tryd.func101 rfl rfl rfl rfl (Holds.nil w) ?_
  refine CW.seq ?_
  refine CW.region ?_
  refine W.bx rfl (vt rfl) rfl fun b1 => ?_
  refine W.p O.as ?_
  refine WL.nil (Q.tn ?_)
  refine CW.seq ?_
  refine CW.region ?_
  refine W.p O.lds ?_
  refine W.q (O.call ⟨rfl, rfl⟩ (AV.cons (vt rfl) (AV.nil)) (fun _ w hw => ls_May l w h)) ?_
  refine W.p O.mv ?_
  first | refine W.p O.fb ?_ | refine W.p O.fa ?_
  refine W.p O.ld ?_
  refine W.p O.neI ?_
  refine W.p O.pkB ?_
  refine W.p O.mv ?_
  first | refine W.p O.fb ?_ | refine W.p O.fa ?_
  refine W.p O.ld ?_
  refine W.p O.mv ?_
  refine W.p O.gtr ?_
  refine W.p O.pkB ?_
  refine W.p O.as ?_
  refine WL.nil (Q.tn ?_)
  refine CW.ret ?_
  refine ⟨_, [], (RVs.tmp rfl RVs.nil), List.nil_sublist _, ?_⟩
  refine ⟨congrArg Value.bool ?_, rfl⟩
  rw [Bool.eq_iff_iff]
  simp [live, *]
  try grind
set_option maxRecDepth 100000 in
theorem ls_Holds {p : Option Addr} (l : Lz) (cl : List UInt8) (now : Int) (w : World) (hi : In w p (encL l)) (h : l.name.length ≤ 140737488355328) : Fn Tryd.prog 80 [.pointer p, .string (S cl), .int .i64 now] w [] fun v L' => v = .bool (live l now && !decide (l.state = 3) && decide (l.client = cl)) ∧ L' = [] := by
  obtain ⟨q, rfl⟩ := hi.adr (by simp)
  have call : ∀ {L : Heap}, Cells w [] L q 6 (encL l) := fun {L} => cellsO hi rfl (by decide)
  have c1 : ∀ {L : Heap}, Cell w [] L (q.add 1) (.int .i64 l.state) := fun {L} => cellQ hi rfl
  have c2 : ∀ {L : Heap}, Cell w [] L (q.add 2) (.string (S l.client)) := fun {L} => cellQ hi rfl
  have c4 : ∀ {L : Heap}, Cell w [] L (q.add 4) (.string (S l.name)) := fun {L} => cellQ hi rfl
  have c5 : ∀ {L : Heap}, Cell w [] L (q.add 5) (.bool l.won) := fun {L} => cellQ hi rfl
  refine Fn.enter Tryd.func80 rfl rfl rfl rfl (Holds.nil w) ?_
  refine CW.seq ?_
  refine CW.region ?_
  refine W.p O.as ?_
  refine WL.nil (Q.tn ?_)
  refine CW.seq ?_
  refine CW.region ?_
  refine W.p O.mv ?_
  refine W.p O.nc ?_
  first | refine W.p O.lds ?_ | refine W.p O.ldsC ?_
  refine W.p O.mv ?_
  refine W.q (O.call ⟨rfl, rfl⟩ (AV.cons (vt rfl) (AV.cons (vt rfl) (AV.nil))) (fun _ w hw => ls_Live l now w h)) ?_
  refine W.p O.mv ?_
  refine W.p O.mv ?_
  refine W.p O.nc ?_
  first | refine W.p O.fb ?_ | refine W.p O.fa ?_
  first | refine W.p O.ld ?_ | refine W.p O.ldC ?_
  refine W.p O.neI ?_
  refine W.p O.pkB ?_
  refine W.p O.mv ?_
  refine W.p O.mv ?_
  refine W.p O.nc ?_
  first | refine W.p O.fb ?_ | refine W.p O.fa ?_
  first | refine W.p O.ld ?_ | refine W.p O.ldC ?_
  refine W.p O.mv ?_
  refine W.p O.eqS ?_
  refine W.p O.pkB ?_
  refine W.p O.as ?_
  refine WL.nil (Q.tn ?_)
  refine CW.ret ?_
  refine ⟨_, [], (RVs.tmp rfl RVs.nil), List.nil_sublist _, ?_⟩
  refine ⟨congrArg Value.bool ?_, rfl⟩
  rw [Bool.eq_iff_iff]
  simp [*]
set_option maxRecDepth 100000 in
theorem ls_Bound {p : Option Addr} (l : Lz) (cl : List UInt8) (now : Int) (w : World) (hi : In w p (encL l)) (h : l.name.length ≤ 140737488355328) : Fn Tryd.prog 47 [.pointer p, .string (S cl), .int .i64 now] w [] fun v L' => v = .bool (live l now && decide (l.state = 2) && decide (l.client = cl)) ∧ L' = [] := by
  obtain ⟨q, rfl⟩ := hi.adr (by simp)
  have call : ∀ {L : Heap}, Cells w [] L q 6 (encL l) := fun {L} => cellsO hi rfl (by decide)
  have c1 : ∀ {L : Heap}, Cell w [] L (q.add 1) (.int .i64 l.state) := fun {L} => cellQ hi rfl
  have c2 : ∀ {L : Heap}, Cell w [] L (q.add 2) (.string (S l.client)) := fun {L} => cellQ hi rfl
  have c4 : ∀ {L : Heap}, Cell w [] L (q.add 4) (.string (S l.name)) := fun {L} => cellQ hi rfl
  have c5 : ∀ {L : Heap}, Cell w [] L (q.add 5) (.bool l.won) := fun {L} => cellQ hi rfl
  refine Fn.enter Tryd.func47 rfl rfl rfl rfl (Holds.nil w) ?_
  refine CW.seq ?_
  refine CW.region ?_
  refine W.p O.as ?_
  refine WL.nil (Q.tn ?_)
  refine CW.seq ?_
  refine CW.region ?_
  refine W.p O.mv ?_
  refine W.p O.mv ?_
  refine W.p O.mv ?_
  refine W.q (O.call ⟨rfl, rfl⟩ (AV.cons (vt rfl) (AV.cons (vt rfl) (AV.cons (vt rfl) (AV.nil)))) (fun _ w hw => ls_Holds l cl now w (hi.upd (L0 := []) hw) h)) ?_
  refine W.p O.mv ?_
  refine W.p O.mv ?_
  refine W.p O.nc ?_
  first | refine W.p O.fb ?_ | refine W.p O.fa ?_
  first | refine W.p O.ld ?_ | refine W.p O.ldC ?_
  refine W.p O.eqI ?_
  refine W.p O.pkB ?_
  refine W.p O.as ?_
  refine WL.nil (Q.tn ?_)
  refine CW.ret ?_
  refine ⟨_, [], (RVs.tmp rfl RVs.nil), List.nil_sublist _, ?_⟩
  refine ⟨congrArg Value.bool ?_, rfl⟩
  rw [Bool.eq_iff_iff]
  simp [*]
  try grind
theorem wrap_u32 (x : Int) : 0 ≤ IntKind.u32.wrap x ∧ IntKind.u32.wrap x ≤ 4294967295 := by
  have : IntKind.u32.wrap x = x % 4294967296 := rfl
  omega
theorem wrap32_in {x : Int} (h0 : 0 ≤ x) (h1 : x ≤ 4294967295) : IntKind.u32.wrap x = x := by
  have : IntKind.u32.wrap x = x % 4294967296 := rfl
  omega
set_option maxRecDepth 100000 in
theorem sn_May (x : Int) (w : World) (hx : -9223372036854775808 ≤ x ∧ x ≤ 9223372036854775807) : Fn Tryd.prog 45 [.int .i64 x] w [] fun v L' => v = .bool (inZ x 0 4294967295) ∧ L' = [] := by
  refine Fn.enter Tryd.func45 rfl rfl rfl rfl (Holds.nil w) ?_
  refine CW.seq ?_
  refine CW.region ?_
  refine W.p O.as ?_
  refine WL.nil (Q.tn ?_)
  refine CW.seq ?_
  refine CW.region ?_
  refine W.p O.mv ?_
  refine W.p O.mv ?_
  refine W.p O.cv ?_
  refine W.p O.cv ?_
  refine W.p O.eqI ?_
  refine W.p O.as ?_
  refine WL.nil (Q.tn ?_)
  refine CW.ret ?_
  refine ⟨_, [], (RVs.tmp rfl RVs.nil), List.nil_sublist _, ?_⟩
  refine ⟨congrArg Value.bool ?_, rfl⟩
  have hr : 0 ≤ IntKind.u32.wrap x ∧ IntKind.u32.wrap x ≤ 4294967295 := wrap_u32 x
  rw [wrap_in _ (by omega)]
  by_cases h : 0 ≤ x ∧ x ≤ 4294967295
  · rw [wrap32_in h.1 h.2, inZ, decide_eq_true h.1, decide_eq_true h.2]; simp
  · rw [decide_eq_false (by omega), inZ]; symm; rw [Bool.and_eq_false_iff]; simp only [decide_eq_false_iff_not]; omega
set_option maxRecDepth 100000 in
theorem id_May (s : List UInt8) (w : World) (h : s.length ≤ 140737488355328) : Fn Tryd.prog 97 [.string (S s)] w [] fun v L' => v = .bool (clMay s) ∧ L' = [] := by
  refine Fn.enter Tryd.func97 rfl rfl rfl rfl (Holds.nil w) ?_
  refine CW.seq ?_
  refine CW.region ?_
  refine W.p O.as ?_
  refine WL.nil (Q.tn ?_)
  refine CW.seq ?_
  refine CW.region ?_
  refine W.p O.mv ?_
  refine W.p O.len ?_
  refine W.p O.geq ?_
  refine W.p O.mv ?_
  refine W.p O.mv ?_
  refine W.p O.len ?_
  refine W.p O.leq ?_
  refine W.p O.pkB ?_
  refine W.p O.as ?_
  refine WL.nil (Q.tn ?_)
  refine CW.ret ?_
  refine ⟨_, [], (RVs.tmp rfl RVs.nil), List.nil_sublist _, ?_⟩
  refine ⟨congrArg Value.bool ?_, rfl⟩
  rw [Bool.eq_iff_iff]
  simp [clMay, *]
  try omega
set_option maxRecDepth 100000 in
theorem cf_Address (h : Int) (w : World) : Fn Tryd.prog 81 [.int .i64 h] w [] fun v L' => v = .tuple #[.int .i64 (if 1 ≤ h ∧ h ≤ 254 then 167772160 + h else 0), .int .i64 (if 1 ≤ h ∧ h ≤ 254 then 0 else 1100)] ∧ L' = [] := by
  refine Fn.enter Tryd.func81 rfl rfl rfl rfl (Holds.nil w) ?_
  refine CW.seq ?_
  refine CW.region ?_
  refine W.p O.as ?_
  refine W.p O.as ?_
  refine WL.nil (Q.tn ?_)
  refine CW.seq ?_
  refine CW.seq ?_
  refine CW.region ?_
  refine W.p O.mv ?_
  refine W.p O.lss ?_
  refine W.p O.mv ?_
  refine W.p O.mv ?_
  refine W.p O.gtr ?_
  refine W.p O.pkB ?_
  refine WL.nil (Q.tn ?_)
  refine CW.cond (vt rfl) (fun hc1 => ?_) (fun hc1 => ?_)
  · try simp only [sk] at hc1
    refine CW.seq ?_
    refine CW.region ?_
    refine W.p O.as ?_
    refine W.p O.as ?_
    refine WL.nil (Q.tn ?_)
    refine CW.ret (Q.tr ?_)
    refine ⟨_, [], (RVs.tmp rfl (RVs.tmp rfl RVs.nil)), List.nil_sublist _, ?_⟩
    refine ⟨?_, rfl⟩
    rw [if_neg (by omega), if_neg (by omega)]; rfl
  try simp only [sk] at hc1
  refine CW.skip (Q.tn ?_)
  refine CW.seq ?_
  refine CW.region ?_
  refine W.p O.mv ?_
  first | refine W.p O.addN ?_ | refine W.p O.add ?_
  refine W.p O.as ?_
  refine W.p O.as ?_
  refine WL.nil (Q.tn ?_)
  refine CW.ret ?_
  refine ⟨_, [], (RVs.tmp rfl (RVs.tmp rfl RVs.nil)), List.nil_sublist _, ?_⟩
  refine ⟨?_, rfl⟩
  rw [if_pos (by omega), if_pos (by omega)]; rfl
end Go.Proofs.YtagiajnpnjakhaaDoor
