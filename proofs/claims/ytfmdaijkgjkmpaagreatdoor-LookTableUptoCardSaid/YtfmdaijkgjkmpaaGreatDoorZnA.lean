/- Several texts in one (ZnA). Their conditions are their own. -/
import Derived.Test.YtfmdaijkgjkmpaaGreatDoorPZone
import Derived.Test.YtfmdaijkgjkmpaaGreatDoorLaw0
import Derived.Test.YtfmdaijkgjkmpaaGreatDoorCv
import Derived.Laws.OwnMore
set_option linter.unusedVariables false
set_option linter.unusedSimpArgs false
namespace Go.Proofs.YtfmdaijkgjkmpaaGreatDoor
open Go Go.RowKit
abbrev encL : Lz → List Value := fun l => [.int .i64 l.host, .int .i64 l.state, .string (S l.client), .int .i64 l.til, .string (S l.name), .bool l.won]
abbrev dL : Lz := ⟨0, 0, [], 0, [], false⟩
instance : Enc encL 6 dL := ⟨fun _ => rfl, by decide⟩
instance : EncOne encL := ⟨fun x u hu => by simp at hu; rcases hu with rfl | rfl | rfl | rfl | rfl | rfl <;> rfl⟩
abbrev encRs : Rs → List Value := fun r => [.string (S r.client), .int .i64 r.host]
abbrev dRz : Rs := ⟨[], 0⟩
instance : Enc encRs 2 dRz := ⟨fun _ => rfl, by decide⟩
instance : EncOne encRs := ⟨fun x u hu => by simp at hu; rcases hu with rfl | rfl <;> rfl⟩
abbrev vL (l : Lz) : Value := .agg (encL l).toArray
abbrev Sl2 := Option Addr × Nat
abbrev encCf (c : Cf) (e r s : Sl2) : List Value := [.int .i64 c.first, .int .i64 c.last, .slice e.1 c.excl.length e.2, .slice r.1 c.resv.length r.2, .int .i64 c.time, .string (S c.zone), .slice s.1 c.stat.length s.2]
abbrev vCf (c : Cf) (e r s : Sl2) : Value := .agg (encCf c e r s).toArray
/-- a configuration's rows -/
structure CfIn (w : World) (c : Cf) (e r s : Sl2) : Prop where
 hx : In w e.1 (c.excl.flatMap encI)
 hr : In w r.1 (c.resv.flatMap encRs)
 hs : In w s.1 (c.stat.flatMap encR)
theorem CfIn.upd {w w' : World} {L : Heap} {c : Cf} {e r s : Sl2} (h : CfIn w c e r s) (hw : Upd w [] w' L) : CfIn w' c e r s := ⟨h.hx.upd (L0 := []) hw, h.hr.upd (L0 := []) hw, h.hs.upd (L0 := []) hw⟩
/-- a configuration's sizes -/
structure CfSz (c : Cf) : Prop where
 hx : c.excl.length ≤ 1048576
 hr : c.resv.length ≤ 1048576
 hs : c.stat.length ≤ 1048576
 hz : c.zone.length ≤ 1048576
 hc : ∀ r ∈ c.resv, r.client.length ≤ 1048576
 hn : ∀ r ∈ c.stat, r.name.length ≤ 1048576 ∧ r.target.length ≤ 1048576
structure LsSz (ls : List Lz) : Prop where
 hl : ls.length ≤ 1048576
 hn : ∀ l ∈ ls, l.name.length ≤ 1048576
 hc : ∀ l ∈ ls, l.client.length ≤ 1048576
end Go.Proofs.YtfmdaijkgjkmpaaGreatDoor

set_option linter.unusedVariables false
set_option linter.unusedSimpArgs false
namespace Go.Proofs.YtfmdaijkgjkmpaaGreatDoor
open Go Go.RowKit
set_option maxRecDepth 100000 in
theorem ls_Time (t : Int) (w : World) : Fn Tryz.prog 65 [.int .i64 t] w [] fun v L' => v = .bool (inZ t 0 1099511627776) ∧ L' = [] := by
 refine Fn.enter Tryz.func65 rfl rfl rfl rfl (Holds.nil w) ?_
 refine W.go ?_
 refine ⟨_, [], (RVs.tmp rfl RVs.nil), List.nil_sublist _, ?_⟩
 refine ⟨congrArg Value.bool ?_, rfl⟩
 rw [inZ]; cases decide (0 ≤ t) <;> rfl
set_option maxRecDepth 100000 in
theorem ls_state {p : Option Addr} (l : Lz) (w : World) (hi : In w p (encL l)) : Fn Tryz.prog 125 [.pointer p] w [] fun v L' => v = .bool (lzSt l) ∧ L' = [] := by
 obtain ⟨q, rfl⟩ := hi.adr (by simp)
 have call : ∀ {L : Heap}, Cells w [] L q 6 (encL l) := fun {L} => cellsO hi rfl (by decide)
 have c1 : ∀ {L : Heap}, Cell w [] L (q.add 1) (.int .i64 l.state) := fun {L} => cellQ hi rfl
 have c2 : ∀ {L : Heap}, Cell w [] L (q.add 2) (.string (S l.client)) := fun {L} => cellQ hi rfl
 have c4 : ∀ {L : Heap}, Cell w [] L (q.add 4) (.string (S l.name)) := fun {L} => cellQ hi rfl
 have c5 : ∀ {L : Heap}, Cell w [] L (q.add 5) (.bool l.won) := fun {L} => cellQ hi rfl
 refine Fn.enter Tryz.func125 rfl rfl rfl rfl (Holds.nil w) ?_
 refine W.go ?_
 refine CW.cond (vt rfl) (fun hc1 => ?_) (fun hc1 => ?_)
 ·try simp only [sk] at hc1
  refine W.go ?_
  refine CW.cond (vt rfl) (fun hc2 => ?_) (fun hc2 => ?_)
  ·try simp only [sk] at hc2
   refine W.go ?_
   refine ⟨_, [], (RVs.tmp rfl RVs.nil), List.nil_sublist _, ?_⟩
   refine ⟨congrArg Value.bool ?_, rfl⟩
   rw [Bool.eq_iff_iff]
   simp [lzSt, *]
   try grind
  try simp only [sk] at hc2
  refine W.go ?_
  refine CW.cond (vt rfl) (fun hc3 => ?_) (fun hc3 => ?_)
  ·try simp only [sk] at hc3
   refine W.go ?_
   refine ⟨_, [], (RVs.tmp rfl RVs.nil), List.nil_sublist _, ?_⟩
   refine ⟨congrArg Value.bool ?_, rfl⟩
   rw [Bool.eq_iff_iff]
   simp [lzSt, *]
   try grind
  try simp only [sk] at hc3
  refine W.go ?_
  refine CW.cond (vt rfl) (fun hc4 => ?_) (fun hc4 => ?_)
  ·try simp only [sk] at hc4
   refine W.go ?_
   refine ⟨_, [], (RVs.tmp rfl RVs.nil), List.nil_sublist _, ?_⟩
   refine ⟨congrArg Value.bool ?_, rfl⟩
   rw [Bool.eq_iff_iff]
   simp [lzSt, *]
   try grind
  try simp only [sk] at hc4
  refine W.go ?_
  refine ⟨_, [], (RVs.tmp rfl RVs.nil), List.nil_sublist _, ?_⟩
  refine ⟨congrArg Value.bool ?_, rfl⟩
  rw [Bool.eq_iff_iff]
  simp [lzSt, *]
  try grind
 try simp only [sk] at hc1
 refine W.go ?_
 refine CW.cond (vt rfl) (fun hc5 => ?_) (fun hc5 => ?_)
 ·try simp only [sk] at hc5
  refine W.go ?_
  refine ⟨_, [], (RVs.tmp rfl RVs.nil), List.nil_sublist _, ?_⟩
  refine ⟨congrArg Value.bool ?_, rfl⟩
  rw [Bool.eq_iff_iff]
  simp [lzSt, *]
  try grind
 try simp only [sk] at hc5
 refine W.go ?_
 refine CW.cond (vt rfl) (fun hc6 => ?_) (fun hc6 => ?_)
 ·try simp only [sk] at hc6
  refine W.go ?_
  refine ⟨_, [], (RVs.tmp rfl RVs.nil), List.nil_sublist _, ?_⟩
  refine ⟨congrArg Value.bool ?_, rfl⟩
  rw [Bool.eq_iff_iff]
  simp [lzSt, *]
  try grind
 try simp only [sk] at hc6
 refine W.go ?_
 refine CW.cond (vt rfl) (fun hc7 => ?_) (fun hc7 => ?_)
 ·try simp only [sk] at hc7
  refine W.go ?_
  refine ⟨_, [], (RVs.tmp rfl RVs.nil), List.nil_sublist _, ?_⟩
  refine ⟨congrArg Value.bool ?_, rfl⟩
  rw [Bool.eq_iff_iff]
  simp [lzSt, *]
  try grind
 try simp only [sk] at hc7
 refine W.go ?_
 refine ⟨_, [], (RVs.tmp rfl RVs.nil), List.nil_sublist _, ?_⟩
 refine ⟨congrArg Value.bool ?_, rfl⟩
 rw [Bool.eq_iff_iff]
 simp [lzSt, *]
 try grind
set_option maxRecDepth 100000 in
theorem ls_May (l : Lz) (w : World) (h : l.name.length ≤ 140737488355328) : Fn Tryz.prog 98 [vL l] w [] fun v L' => v = .bool (lzMay l) ∧ L' = [] := by
 refine Fn.enter Tryz.func98 rfl rfl rfl rfl (Holds.nil w) ?_
 refine W.go ?_
 refine W.bx rfl (vt rfl) rfl fun b1 => ?_
 refine W.go ?_
 refine W.q (O.call ⟨rfl, rfl⟩ (AV.cons (vt rfl) (AV.nil)) (fun _ w hw => ls_state l w (in_blk hw))) ?_
 refine W.go ?_
 refine W.q (O.call ⟨rfl, rfl⟩ (AV.cons (vs rfl) (AV.nil)) (fun _ w hw => ls_Time _ w)) ?_
 refine W.go ?_
 refine W.q (O.call ⟨rfl, rfl⟩ (AV.cons (vs rfl) (AV.nil)) (fun _ w hw => nm_May _ w (by omega))) ?_
 refine W.go ?_
 refine ⟨_, [], (RVs.tmp rfl RVs.nil), List.nil_sublist _, ?_⟩
 refine ⟨congrArg Value.bool ?_, rfl⟩
 rw [Bool.eq_iff_iff]
 simp [lzMay, inZ, *]
 try grind
set_option maxRecDepth 100000 in
theorem ls_Live (l : Lz) (now : Int) (w : World) (h : l.name.length ≤ 140737488355328) : Fn Tryz.prog 126 [vL l, .int .i64 now] w [] fun v L' => v = .bool (live l now) ∧ L' = [] := by
 refine Fn.enter Tryz.func126 rfl rfl rfl rfl (Holds.nil w) ?_
 refine W.go ?_
 refine W.bx rfl (vt rfl) rfl fun b1 => ?_
 refine W.go ?_
 refine W.q (O.call ⟨rfl, rfl⟩ (AV.cons (vt rfl) (AV.nil)) (fun _ w hw => ls_May l w h)) ?_
 refine W.go ?_
 refine ⟨_, [], (RVs.tmp rfl RVs.nil), List.nil_sublist _, ?_⟩
 refine ⟨congrArg Value.bool ?_, rfl⟩
 rw [Bool.eq_iff_iff]
 simp [live, *]
 try grind
set_option maxRecDepth 100000 in
theorem ls_Holds {p : Option Addr} (l : Lz) (cl : List UInt8) (now : Int) (w : World) (hi : In w p (encL l)) (h : l.name.length ≤ 140737488355328) : Fn Tryz.prog 99 [.pointer p, .string (S cl), .int .i64 now] w [] fun v L' => v = .bool (live l now && !decide (l.state = 3) && decide (l.client = cl)) ∧ L' = [] := by
 obtain ⟨q, rfl⟩ := hi.adr (by simp)
 have call : ∀ {L : Heap}, Cells w [] L q 6 (encL l) := fun {L} => cellsO hi rfl (by decide)
 have c1 : ∀ {L : Heap}, Cell w [] L (q.add 1) (.int .i64 l.state) := fun {L} => cellQ hi rfl
 have c2 : ∀ {L : Heap}, Cell w [] L (q.add 2) (.string (S l.client)) := fun {L} => cellQ hi rfl
 have c4 : ∀ {L : Heap}, Cell w [] L (q.add 4) (.string (S l.name)) := fun {L} => cellQ hi rfl
 have c5 : ∀ {L : Heap}, Cell w [] L (q.add 5) (.bool l.won) := fun {L} => cellQ hi rfl
 refine Fn.enter Tryz.func99 rfl rfl rfl rfl (Holds.nil w) ?_
 refine W.go ?_
 refine W.q (O.call ⟨rfl, rfl⟩ (AV.cons (vt rfl) (AV.cons (vt rfl) (AV.nil))) (fun _ w hw => ls_Live l now w h)) ?_
 refine W.go ?_
 refine ⟨_, [], (RVs.tmp rfl RVs.nil), List.nil_sublist _, ?_⟩
 refine ⟨congrArg Value.bool ?_, rfl⟩
 rw [Bool.eq_iff_iff]
 simp [*]
set_option maxRecDepth 100000 in
theorem ls_Bound {p : Option Addr} (l : Lz) (cl : List UInt8) (now : Int) (w : World) (hi : In w p (encL l)) (h : l.name.length ≤ 140737488355328) : Fn Tryz.prog 68 [.pointer p, .string (S cl), .int .i64 now] w [] fun v L' => v = .bool (live l now && decide (l.state = 2) && decide (l.client = cl)) ∧ L' = [] := by
 obtain ⟨q, rfl⟩ := hi.adr (by simp)
 have call : ∀ {L : Heap}, Cells w [] L q 6 (encL l) := fun {L} => cellsO hi rfl (by decide)
 have c1 : ∀ {L : Heap}, Cell w [] L (q.add 1) (.int .i64 l.state) := fun {L} => cellQ hi rfl
 have c2 : ∀ {L : Heap}, Cell w [] L (q.add 2) (.string (S l.client)) := fun {L} => cellQ hi rfl
 have c4 : ∀ {L : Heap}, Cell w [] L (q.add 4) (.string (S l.name)) := fun {L} => cellQ hi rfl
 have c5 : ∀ {L : Heap}, Cell w [] L (q.add 5) (.bool l.won) := fun {L} => cellQ hi rfl
 refine Fn.enter Tryz.func68 rfl rfl rfl rfl (Holds.nil w) ?_
 refine W.go ?_
 refine W.q (O.call ⟨rfl, rfl⟩ (AV.cons (vt rfl) (AV.cons (vt rfl) (AV.cons (vt rfl) (AV.nil)))) (fun _ w hw => ls_Holds l cl now w (hi.upd (L0 := []) hw) h)) ?_
 refine W.go ?_
 refine ⟨_, [], (RVs.tmp rfl RVs.nil), List.nil_sublist _, ?_⟩
 refine ⟨congrArg Value.bool ?_, rfl⟩
 rw [Bool.eq_iff_iff]
 simp [*]
 try grind
theorem wrap_u32 (x : Int) : 0 ≤ IntKind.u32.wrap x ∧ IntKind.u32.wrap x ≤ 4294967295 := by
 have : IntKind.u32.wrap x = x % 4294967296 := rfl
 omega
theorem wrap32_in {x : Int} (h0 : 0 ≤ x) (h1 : x ≤ 4294967295) : IntKind.u32.wrap x = x := by
 have : IntKind.u32.wrap x = x % 4294967296 := rfl
 omega
set_option maxRecDepth 100000 in
theorem sn_May (x : Int) (w : World) (hx : -9223372036854775808 ≤ x ∧ x ≤ 9223372036854775807) : Fn Tryz.prog 66 [.int .i64 x] w [] fun v L' => v = .bool (inZ x 0 4294967295) ∧ L' = [] := by
 refine Fn.enter Tryz.func66 rfl rfl rfl rfl (Holds.nil w) ?_
 refine W.go ?_
 refine W.p O.cv ?_
 refine W.p O.cv ?_
 refine W.go ?_
 refine ⟨_, [], (RVs.tmp rfl RVs.nil), List.nil_sublist _, ?_⟩
 refine ⟨congrArg Value.bool ?_, rfl⟩
 have hr : 0 ≤ IntKind.u32.wrap x ∧ IntKind.u32.wrap x ≤ 4294967295 := wrap_u32 x
 rw [wrap_in _ (by omega)]
 by_cases h : 0 ≤ x ∧ x ≤ 4294967295
 ·rw [wrap32_in h.1 h.2, inZ, decide_eq_true h.1, decide_eq_true h.2]; simp
 ·rw [decide_eq_false (by omega), inZ]; symm; rw [Bool.and_eq_false_iff]; simp only [decide_eq_false_iff_not]; omega
set_option maxRecDepth 100000 in
theorem id_May (s : List UInt8) (w : World) (h : s.length ≤ 140737488355328) : Fn Tryz.prog 124 [.string (S s)] w [] fun v L' => v = .bool (clMay s) ∧ L' = [] := by
 refine Fn.enter Tryz.func124 rfl rfl rfl rfl (Holds.nil w) ?_
 refine W.go ?_
 refine ⟨_, [], (RVs.tmp rfl RVs.nil), List.nil_sublist _, ?_⟩
 refine ⟨congrArg Value.bool ?_, rfl⟩
 rw [Bool.eq_iff_iff]
 simp [clMay, *]
 try omega
set_option maxRecDepth 100000 in
theorem cf_Address (h : Int) (w : World) : Fn Tryz.prog 100 [.int .i64 h] w [] fun v L' => v = .tuple #[.int .i64 (if 1 ≤ h ∧ h ≤ 254 then 167772160 + h else 0), .int .i64 (if 1 ≤ h ∧ h ≤ 254 then 0 else 1100)] ∧ L' = [] := by
 refine Fn.enter Tryz.func100 rfl rfl rfl rfl (Holds.nil w) ?_
 refine W.go ?_
 refine CW.cond (vt rfl) (fun hc1 => ?_) (fun hc1 => ?_)
 ·try simp only [sk] at hc1
  refine W.go ?_
  refine ⟨_, [], (RVs.tmp rfl (RVs.tmp rfl RVs.nil)), List.nil_sublist _, ?_⟩
  refine ⟨?_, rfl⟩
  rw [if_neg (by omega), if_neg (by omega)]; rfl
 try simp only [sk] at hc1
 refine W.go ?_
 refine ⟨_, [], (RVs.tmp rfl (RVs.tmp rfl RVs.nil)), List.nil_sublist _, ?_⟩
 refine ⟨?_, rfl⟩
 rw [if_pos (by omega), if_pos (by omega)]; rfl
end Go.Proofs.YtfmdaijkgjkmpaaGreatDoor

set_option linter.unusedVariables false
set_option linter.unusedSimpArgs false
namespace Go.Proofs.YtfmdaijkgjkmpaaGreatDoor
open Go Go.RowKit
section
variable {P : Program} {d n : Nat} {w0 w : World} {L0 L L' : Heap} {all rest : List Oper} {E : Env} {Q : Post} {x y : Operand} {T U ty : TypeId} {pos : String} {aft : Array Edge} {g : Option (Nat × Bool)} {G : Bool}
/-- how often a byte stands in a text -/
theorem O.cntB {f : FuncId} {fn : Func} {s : List UInt8} {c : UInt8} {Ts : Array TypeId} {z : Operand} (hp : Pre n all E g d G := by exact ⟨rfl, rfl⟩) (hz : Val G E z (.func (.func f) #[] #[])) (hx : Val G E x (.string (S s))) (hy : Val G E y (.int .u8 c.toNat)) (hf : P.funcs[f]? = some fn) (hname : (fn.name == "runtime.NumGoroutine") = false)
  (hb : fn.body.isNone = true) (hn : Extern.findNext fn = none) (he : Extern.find fn = some Extern.BytealgCount.count) : QV P n w0 L0 all ⟨some d, .call ⟨.value z, #[x, y], Ts⟩, ty, pos, aft, g⟩ E L d G (.int .i64 (s.count c : Nat)) :=
 O.val rfl hp (fun hG a w ha hw => by
  have h := run_callFunc_extern hf hname hb hn he #[.string (S s), .int .u8 c.toNat] w
  rw [Lib.run_countString] at h
  have e : ((c.toNat : Int).toNat).toUInt8 = c := by simp
  simp only [e] at h
  exact r_ixB (fn := fn) (hz.eval hG ha) (hx.eval hG ha) (hy.eval hG ha) h)
/-- 'make' of a row of texts -/
theorem W.mkS {k1 k2 : IntKind} {kb : Nat} {j : Int} {z : Value} [hT : TSlice P T U] [hS : TSize P U 1] [hZ : TZero P U z] [hB : TByt P U kb] (hn : Nat.blt d n = true) (hx : Val true E x (.int k1 j)) (hy : Val true E y (.int k2 j)) (c : Nat) (hj : j = (c : Int)) (hb : kb * c ≤ 281474976710656) (h63 : (c : Int) ≤ 9223372036854775807) (hz : z.cells = (encS []).toArray := by rfl)
  (k : ∀ b, WL P n w0 L0 all rest ((d, true, .slice (some ⟨b, 0, none⟩) c c) :: E) ((b, .cells (flat encS (List.replicate c []) []).toArray U (0, 0)) :: L) Q) : WL P n w0 L0 all (⟨some d, .makeSlice T x y, ty, pos, aft, none⟩ :: rest) E L Q := by
 subst hj
 refine W.mkE (enc := encS) (dv := []) (c := c) hn hx hy hz hb h63 ?_ k
 have e : ∀ c : Nat, (List.replicate c ([] : List UInt8)).flatMap encS = List.replicate c (.string (S [])) := fun c => by
  induction c with
  | zero => rfl
  | succ c ih => rw [List.replicate_succ, List.flatMap_cons, ih]; rfl
 rw [Nat.mul_one]
 apply Array.ext'
 rw [toList_madeCells_one, flat, List.append_nil, e]
end
theorem lbls_no {s : List UInt8} (h : s = [] ∨ nmMay s = false) : lbls s = [] := by
 rcases h with rfl | h
 ·rfl
 ·rw [lbls, if_neg (by rw [h]; decide)]
theorem lbls_is {s : List UInt8} (h : ¬s = [] ∧ nmMay s = true) : lbls s = spl 46 s := by
 rw [lbls, if_pos h.2, labs, if_neg h.1, spl_dot]
set_option maxRecDepth 100000 in
theorem st_Index1 (s : List UInt8) (q : UInt8) (w : World) : Fn Tryz.prog 151 [.string (S s), .string (S [q])] w [] fun v L' => v = .int .i64 (ixb s q) ∧ L' = [] := by
 refine Fn.enter Tryz.func151 rfl rfl rfl rfl (Holds.nil w) ?_
 refine W.go ?_
 refine W.q (O.call ⟨rfl, rfl⟩ (AV.cons (vt rfl) (AV.cons (vt rfl) (AV.nil))) (fun _ w hw => sl_Index1 s q w)) ?_
 refine W.go ?_
 refine ⟨_, [], (RVs.tmp rfl RVs.nil), List.nil_sublist _, ?_⟩
 exact ⟨rfl, rfl⟩
set_option maxRecDepth 100000 in
theorem st_Count1 (s : List UInt8) (q : UInt8) (w : World) : Fn Tryz.prog 150 [.string (S s), .string (S [q])] w [] fun v L' => v = .int .i64 (s.count q : Nat) ∧ L' = [] := by
 refine Fn.enter Tryz.func150 rfl rfl rfl rfl (Holds.nil w) ?_
 refine W.go ?_
 refine CW.cond (vt rfl) (fun hc1 => ?_) (fun hc1 => ?_)
 ·simp at hc1
 try simp only [sk] at hc1
 refine W.go ?_
 refine CW.cond (vt rfl) (fun hc2 => ?_) (fun hc2 => ?_)
 ·try simp only [sk] at hc2
  refine W.go ?_
  first | refine W.p O.idxS ?_ | refine W.p (O.idxS (h := fun hg => by simp only [cond_true, cond_false, Bool.true_and, Bool.cond_false_right, Bool.cond_true_left, Bool.and_eq_true, Bool.or_eq_true, Bool.or_eq_false_iff, Bool.and_eq_false_iff, Bool.not_eq_true', Bool.not_eq_false', decide_eq_true_eq, decide_eq_false_iff_not, Int.reduceToNat] at *; omega)) ?_
  refine W.p (O.cntB ⟨rfl, rfl⟩ (vt rfl) (vt rfl) (vt rfl) Tryz.func169 (by kernel_rfl) (by kernel_rfl) (by kernel_rfl) (by kernel_rfl)) ?_
  refine W.go ?_
  refine ⟨_, [], (RVs.tmp rfl RVs.nil), List.nil_sublist _, ?_⟩
  exact ⟨rfl, rfl⟩
 simp at hc2
set_option maxRecDepth 100000 in
theorem st_genSplit (s : List UInt8) (q : UInt8) (w : World) (hn : s.length ≤ 4398046511104) : Fn Tryz.prog 142 [.string (S s), .string (S [q]), .int .i64 0, .int .i64 (-1)] w [] (Fresh encS 9 1 (spl q s)) := by
 have hz1 : ([] : List UInt8).length = 0 := rfl
 have hz2 : ([q] : List UInt8).length = 1 := rfl
 have hcnt := spl_count q s
 have hle : s.count q ≤ s.length := List.count_le_length
 have hmin : min ((s.count q : Int) + 1) ((s.length : Int) + 1) = (spl q s).length := by omega
 refine Fn.enter Tryz.func142 rfl rfl rfl rfl (Holds.nil w) ?_
 refine W.go ?_
 refine CW.cond (vt rfl) (fun hc1 => ?_) (fun hc1 => ?_)
 ·simp at hc1
 try simp only [sk] at hc1
 refine W.go ?_
 refine CW.cond (vt rfl) (fun hc2 => ?_) (fun hc2 => ?_)
 ·simp at hc2
 try simp only [sk] at hc2
 refine W.go ?_
 refine CW.cond (vt rfl) (fun hc3 => ?_) (fun hc3 => ?_)
 ·try simp only [sk] at hc3
  refine W.go ?_
  refine W.q (O.call ⟨rfl, rfl⟩ (AV.cons (vt rfl) (AV.cons (vt rfl) (AV.nil))) (fun _ w hw => st_Count1 _ q w)) ?_
  refine W.go ?_
  refine W.p O.min ?_
  refine W.go ?_
  refine W.mkS rfl (vt rfl) (vt rfl) ((spl q s).length) (by omega) (by omega) (by omega) rfl fun b1 => ?_
  refine W.go ?_
  refine CW.loopA (X := Int × (List UInt8) × (List (List UInt8))) (fun ⟨i, r, xs⟩ => [(0, true, .string (S r)), (1, true, .string (S [q])), (2, true, .int .i64 0), (3, true, .int .i64 (min ((s.count q : Int) + 1) ((s.length : Int) + 1) - 1)), (9, true, .slice (oa (some b1)) (spl q s).length (spl q s).length), (10, true, .int .i64 i)]) (fun ⟨i, r, xs⟩ => rowL (some b1) 9 (flat encS xs [])) (fun ⟨i, r, xs⟩ => LabI q s i r xs) (fun ⟨i, r, xs⟩ => r.length) (0, s, List.replicate (spl q s).length []) ?_ ?_
  ·exact LabI.new q s
  rintro ⟨i, r, xs⟩ hI
  try dsimp only at hI ⊢
  have hl := hI.lt; have hi := hI.i0; have hxl := hI.ln; have hx := ixb_hi q r; have hr := hI.rl
  refine W.go ?_
  refine CW.cond (vt rfl) (fun hc4 => ?_) (fun hc4 => ?_)
  ·try simp only [sk] at hc4
   refine W.go ?_
   refine W.q (O.call ⟨rfl, rfl⟩ (AV.cons (vt rfl) (AV.cons (vt rfl) (AV.nil))) (fun _ w hw => st_Index1 _ q w)) ?_
   refine W.go ?_
   refine CW.cond (vt rfl) (fun hc5 => ?_) (fun hc5 => ?_)
   ·try simp only [sk] at hc5
    refine CW.exit (Q.te (Q.bo rfl (Q.te (Q.bx (Q.tn ?_)))))
    refine W.go ?_
    refine W.stE r (vt rfl) (vt rfl) rfl (by first | omega | (simp only [decide_eq_true_eq, decide_eq_false_iff_not] at *; omega)) (by decide) (by rfl) ?_
    refine W.go ?_
    refine W.p O.slH ?_
    refine W.go ?_
    refine ⟨_, rowL (some b1) 9 (flat encS (xs.set i.toNat r) []), (RVs.tmp rfl RVs.nil), (by repeat (first | exact List.Sublist.refl _ | exact hSub _ | exact List.sublist_append_left _ _ | exact List.nil_sublist _ | refine List.Sublist.append (List.Sublist.refl _) ?_ | apply List.Sublist.cons_cons | apply List.Sublist.cons | exact List.sublist_append_left _ _ | refine List.Sublist.trans ?_ (List.sublist_append_right _ _))), ?_⟩
    obtain ⟨e1, e2⟩ := hI.end (.inl hc5)
    rw [e1, e2]; exact ⟨some b1, _, [], rfl, ⟨by simp, by simp, by simp, by simp only [maxLen]; omega⟩, rfl⟩
   try simp only [sk] at hc5
   refine W.go ?_
   refine W.p O.slcH ?_
   refine W.go ?_
   refine W.stE (r.take (ixb r q + 0).toNat) (vt rfl) (vt rfl) rfl (by first | omega | (simp only [decide_eq_true_eq, decide_eq_false_iff_not] at *; omega)) (by decide) (by rfl) ?_
   refine W.go ?_
   refine W.p O.slcL ?_
   refine W.go ?_
   refine nextA (_, _, xs.set i.toNat (r.take (ixb r q + 0).toNat)) ?_ ?_
   ·try dsimp only
    rw [Int.add_zero]; exact hI.step (by omega)
   ·try dsimp only
    rw [List.length_drop]; omega
  try simp only [sk] at hc4
  refine W.go ?_
  refine W.stE r (vt rfl) (vt rfl) rfl (by first | omega | (simp only [decide_eq_true_eq, decide_eq_false_iff_not] at *; omega)) (by decide) (by rfl) ?_
  refine W.go ?_
  refine W.p O.slH ?_
  refine W.go ?_
  refine ⟨_, rowL (some b1) 9 (flat encS (xs.set i.toNat r) []), (RVs.tmp rfl RVs.nil), (by repeat (first | exact List.Sublist.refl _ | exact hSub _ | exact List.sublist_append_left _ _ | exact List.nil_sublist _ | refine List.Sublist.append (List.Sublist.refl _) ?_ | apply List.Sublist.cons_cons | apply List.Sublist.cons | exact List.sublist_append_left _ _ | refine List.Sublist.trans ?_ (List.sublist_append_right _ _))), ?_⟩
  obtain ⟨e1, e2⟩ := hI.end (.inr (by omega))
  rw [e1, e2]; exact ⟨some b1, _, [], rfl, ⟨by simp, by simp, by simp, by simp only [maxLen]; omega⟩, rfl⟩
 simp at hc3
set_option maxRecDepth 100000 in
theorem st_Split (s : List UInt8) (q : UInt8) (w : World) (hn : s.length ≤ 4398046511104) : Fn Tryz.prog 123 [.string (S s), .string (S [q])] w [] (Fresh encS 9 1 (spl q s)) := by
 refine Fn.enter Tryz.func123 rfl rfl rfl rfl (Holds.nil w) ?_
 refine W.go ?_
 refine W.callN (first := []) (cap := []) rfl (vt rfl) (AV.cons (vt rfl) (AV.cons (vt rfl) (AV.cons (vt rfl) (AV.cons (vt rfl) (AV.nil))))) (fun w hu => st_genSplit s q w hn) ?_; rintro _ _ ⟨o9, c9, sp9, rfl, ok9, rfl⟩
 refine W.go ?_
 refine ⟨_, rowL o9 9 (flat encS (spl q s) sp9), (RVs.tmp rfl RVs.nil), (by repeat (first | exact List.Sublist.refl _ | exact hSub _ | exact List.sublist_append_left _ _ | exact List.nil_sublist _ | refine List.Sublist.append (List.Sublist.refl _) ?_ | apply List.Sublist.cons_cons | apply List.Sublist.cons | exact List.sublist_append_left _ _ | refine List.Sublist.trans ?_ (List.sublist_append_right _ _))), ?_⟩
 exact ⟨o9, c9, sp9, rfl, ok9, rfl⟩
set_option maxRecDepth 100000 in
theorem nm_Labels (s : List UInt8) (w : World) (hn : s.length ≤ 4398046511104) : Fn Tryz.prog 94 [.string (S s)] w [] (Fresh encS 9 1 (lbls s)) := by
 refine Fn.enter Tryz.func94 rfl rfl rfl rfl (Holds.nil w) ?_
 refine W.go ?_
 refine W.q (O.call ⟨rfl, rfl⟩ (AV.cons (vs rfl) (AV.nil)) (fun _ w hw => nm_May _ w (by omega))) ?_
 refine W.go ?_
 refine CW.cond (vt rfl) (fun hc1 => ?_) (fun hc1 => ?_)
 ·try simp only [sk] at hc1
  refine W.go ?_
  refine ⟨_, [], (RVs.tmp rfl RVs.nil), List.nil_sublist _, ?_⟩
  rw [lbls_no hc1]; exact ⟨none, 0, [], rfl, OwnOk.nil, rfl⟩
 try simp only [sk] at hc1
 refine W.go ?_
 refine W.callN (first := []) (cap := []) rfl (vt rfl) (AV.cons (vt rfl) (AV.cons (vt rfl) (AV.nil))) (fun w hu => st_Split s 46 w hn) ?_; rintro _ _ ⟨o9, c9, sp9, rfl, ok9, rfl⟩
 refine W.go ?_
 refine ⟨_, rowL o9 9 (flat encS (spl 46 s) sp9), (RVs.tmp rfl RVs.nil), (by repeat (first | exact List.Sublist.refl _ | exact hSub _ | exact List.sublist_append_left _ _ | exact List.nil_sublist _ | refine List.Sublist.append (List.Sublist.refl _) ?_ | apply List.Sublist.cons_cons | apply List.Sublist.cons | exact List.sublist_append_left _ _ | refine List.Sublist.trans ?_ (List.sublist_append_right _ _))), ?_⟩
 rw [lbls_is hc1]; exact ⟨o9, c9, sp9, rfl, ok9, rfl⟩
set_option maxRecDepth 100000 in
theorem sl_HasSuffix (s t : List UInt8) (w : World) (h1 : s.length ≤ 140737488355328) (h2 : t.length ≤ 140737488355328) : Fn Tryz.prog 119 [.string (S s), .string (S t)] w [] fun v L' => v = .bool (endsB s t) ∧ L' = [] := by
 refine Fn.enter Tryz.func119 rfl rfl rfl rfl (Holds.nil w) ?_
 refine W.go ?_
 refine W.p O.slcL ?_
 refine W.go ?_
 refine ⟨_, [], (RVs.tmp rfl RVs.nil), List.nil_sublist _, ?_⟩
 refine ⟨congrArg Value.bool ?_, rfl⟩
 rw [endsB, show decide ((t.length : Int) ≤ (s.length : Int)) = decide (t.length ≤ s.length) from decide_eq_decide.2 (by omega)]
 cases hle : decide (t.length ≤ s.length)
 ·rfl
 ·rw [show ((s.length : Int) - t.length).toNat = s.length - t.length by omega]; rfl
set_option maxRecDepth 100000 in
theorem st_HasSuffix (s t : List UInt8) (w : World) (h1 : s.length ≤ 140737488355328) (h2 : t.length ≤ 140737488355328) : Fn Tryz.prog 78 [.string (S s), .string (S t)] w [] fun v L' => v = .bool (endsB s t) ∧ L' = [] := by
 refine Fn.enter Tryz.func78 rfl rfl rfl rfl (Holds.nil w) ?_
 refine W.go ?_
 refine W.q (O.call ⟨rfl, rfl⟩ (AV.cons (vt rfl) (AV.cons (vt rfl) (AV.nil))) (fun _ w hw => sl_HasSuffix s t w h1 h2)) ?_
 refine W.go ?_
 refine ⟨_, [], (RVs.tmp rfl RVs.nil), List.nil_sublist _, ?_⟩
 exact ⟨rfl, rfl⟩
set_option maxRecDepth 100000 in
theorem nm_Under (s z : List UInt8) (w : World) (h1 : s.length ≤ 4398046511104) (h2 : z.length ≤ 4398046511104) : Fn Tryz.prog 38 [.string (S s), .string (S z)] w [] fun v L' => v = .bool (under s z) ∧ L' = [] := by
 refine Fn.enter Tryz.func38 rfl rfl rfl rfl (Holds.nil w) ?_
 refine W.go ?_
 refine W.q (O.call ⟨rfl, rfl⟩ (AV.cons (vt rfl) (AV.nil)) (fun _ w hw => nm_May _ w (by omega))) ?_
 refine W.go ?_
 refine W.q (O.call ⟨rfl, rfl⟩ (AV.cons (vs rfl) (AV.nil)) (fun _ w hw => nm_May _ w (by omega))) ?_
 refine W.go ?_
 refine W.q (O.call ⟨rfl, rfl⟩ (AV.cons (vs rfl) (AV.cons (vs rfl) (AV.nil))) (fun _ w hw => st_HasSuffix _ _ w (by omega) (by simp; omega))) ?_
 refine W.go ?_
 refine ⟨_, [], (RVs.tmp rfl RVs.nil), List.nil_sublist _, ?_⟩
 refine ⟨congrArg Value.bool ?_, rfl⟩
 rw [under, show ([46] ++ z : List UInt8) = 46 :: z from rfl]
 cases nmMay s <;> cases nmMay z <;> cases decide (z = []) <;> cases decide (s = z) <;> rfl
end Go.Proofs.YtfmdaijkgjkmpaaGreatDoor
