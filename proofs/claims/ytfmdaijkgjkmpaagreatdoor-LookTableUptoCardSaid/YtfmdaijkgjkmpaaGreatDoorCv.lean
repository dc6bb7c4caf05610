/- Several texts in one (Cv). Their conditions are their own. -/
import Derived.Test.YtfmdaijkgjkmpaaGreatDoorCall
import Derived.Lib.Bytealg
import Derived.Test.YtfmdaijkgjkmpaaGreatDoorPRL
import Derived.Laws.IdiomCopy
import Derived.Lib.MakeNoZero
set_option linter.unusedVariables false
set_option linter.unusedSimpArgs false
namespace Go.Proofs.YtfmdaijkgjkmpaaGreatDoor
open Go Go.RowKit
theorem or_add (m : Nat) (hm : m < 63) {p q : Int} (hp : 0 ≤ p) (hq : 0 ≤ q) (hq2 : q < ((2 ^ m : Nat) : Int)) (hd : p % ((2 ^ m : Nat) : Int) = 0) (hs : p + q < 9223372036854775808) : bits .or .i64 p q = p + q := by
 obtain ⟨a, rfl⟩ := Int.eq_ofNat_of_zero_le hp
 obtain ⟨b, rfl⟩ := Int.eq_ofNat_of_zero_le hq
 have hb : b < 2 ^ m := by exact_mod_cast hq2
 have hd2 : a % 2 ^ m = 0 := by exact_mod_cast hd
 have hab : a + b < 9223372036854775808 := by omega
 have e : (BitVec.ofInt 64 (a : Int) ||| BitVec.ofInt 64 (b : Int)).toNat = a + b := by
  rw [BitVec.toNat_or, BitVec.ofInt_natCast, BitVec.ofInt_natCast, BitVec.toNat_ofNat, BitVec.toNat_ofNat, Nat.mod_eq_of_lt (by omega), Nat.mod_eq_of_lt (by omega)]
  have h1 : (a / 2 ^ m) <<< m = a := by rw [Nat.shiftLeft_eq]; have := Nat.div_add_mod a (2 ^ m); rw [Nat.mul_comm]; omega
  have h2 := Nat.shiftLeft_add_eq_or_of_lt hb (a / 2 ^ m)
  rw [h1] at h2
  exact h2.symm
 show IntKind.i64.wrap ((BitVec.ofInt 64 (a : Int) ||| BitVec.ofInt 64 (b : Int)).toNat : Int) = _
 rw [e, wrap_in _ (by omega)]
 omega
theorem ixb_lib (c : UInt8) : ∀ (s : List UInt8), Lib.indexByte s c = ixb s c
 | [] => rfl
 | b :: l => by
  simp only [Lib.indexByte, ixb, ixb_lib c l]
  by_cases h : b = c <;> simp [h]
section
variable {P : Program} {ρ : Operand → Value} {D : Option Tmp} {d n : Nat} {w0 w : World} {L0 L L' : Heap} {all rest : List Oper} {E : Env} {Q : Post} {x y : Operand} {T T' U ty : TypeId} {pos : String} {aft : Array Edge} {g : Option (Nat × Bool)} {G : Bool}
theorem r_ixB {f : FuncId} {fn : Func} {v : Value} {p q : Value} {Ts : Array TypeId} {z : Operand} (hz : ρ z = .func (.func f) #[] #[]) (hx : ρ x = p) (hy : ρ y = q) (hc : (callFunc f #[p, q]).run P w = .ok (.value v) w) : (execOp ρ ⟨D, .call ⟨.value z, #[x, y], Ts⟩, ty, pos, aft, g⟩).run P w = .ok (.value v) w := by
 simp [execOp, hz, hx, hy, go_sem, hc]
/-- the first place of a byte -/
theorem O.ixB {f : FuncId} {fn : Func} {s : List UInt8} {c : UInt8} {Ts : Array TypeId} {z : Operand} (hp : Pre n all E g d G := by exact ⟨rfl, rfl⟩) (hz : Val G E z (.func (.func f) #[] #[])) (hx : Val G E x (.string (S s))) (hy : Val G E y (.int .u8 c.toNat)) (hf : P.funcs[f]? = some fn) (hname : (fn.name == "runtime.NumGoroutine") = false)
  (hb : fn.body.isNone = true) (hn : Extern.findNext fn = none) (he : Extern.find fn = some Extern.BytealgIndexByte.indexByte) : QV P n w0 L0 all ⟨some d, .call ⟨.value z, #[x, y], Ts⟩, ty, pos, aft, g⟩ E L d G (.int .i64 (ixb s c)) :=
 O.val rfl hp (fun hG a w ha hw => by
  have h := run_callFunc_extern hf hname hb hn he #[.string (S s), .int .u8 c.toNat] w
  rw [Lib.run_indexByteString] at h
  have e : ((c.toNat : Int).toNat).toUInt8 = c := by simp
  simp only [e] at h
  rw [ixb_lib] at h
  exact r_ixB (fn := fn) (hz.eval hG ha) (hx.eval hG ha) (hy.eval hG ha) h)
/-- '[]byte(s)' -/
theorem W.cvSB {s : List UInt8} [ts : TStr P T] [td : TSlice P T' U] [tb : TInt P U .u8] (hn : Nat.blt d n = true) (hx : Val true E x (.string (S s)))
  (k : ∀ b c sp, s.length ≤ c → WL P n w0 L0 all rest ((d, true, .slice (some ⟨b, 0, none⟩) s.length c) :: E) ((b, .cells (flat encB s sp).toArray U (c, c + 1)) :: L) Q) : WL P n w0 L0 all (⟨some d, .convert T T' x, ty, pos, aft, none⟩ :: rest) E L Q :=
 W.loud rfl rfl hn (R := fun v L2 => ∃ b c sp, s.length ≤ c ∧ v = .slice (some ⟨b, 0, none⟩) s.length c ∧ L2 = (b, .cells (flat encB s sp).toArray U (c, c + 1)) :: L) (fun A w ha hw => by
  have hr := run_bytes_of_string (P := P) w T T' U (S s) ts.h td.h tb.h
  have hge := grownCap_ge w (S s).size 0 U
  rw [size_S] at hge
  have hsz : (bytesRow (S s) (grownCap w (S s).size 0 U)).size = grownCap w s.length 0 U := by
   simp [bytesRow, size_S]; omega
  have e : bytesRow (S s) (grownCap w (S s).size 0 U) = (flat encB s (List.replicate (grownCap w s.length 0 U - s.length) (.int .u8 0))).toArray := by
   apply Array.ext'
   simp [bytesRow, flat, flat_bytes, S, size_S]
  rw [hsz, e, size_S] at hr
  refine ⟨_, w.drew.alloc (.cells (flat encB s (List.replicate (grownCap w s.length 0 U - s.length) (.int .u8 0))).toArray U (grownCap w s.length 0 U, grownCap w s.length 0 U + 1)), _, ?_, (hw.same (w' := w.drew) rfl rfl rfl rfl).alloc _, w.heap.size, grownCap w s.length 0 U, List.replicate (grownCap w s.length 0 U - s.length) (.int .u8 0), hge, rfl, rfl⟩
  simp only [execOp, hx.eval rfl ha]
  rw [Sem.run_bind, hr]; rfl) (by
  rintro v L2 ⟨b, c, sp, h1, rfl, rfl⟩
  exact k b c sp h1)
/-- a byte of such a row is written -/
theorem W.stZ {b j c : Nat} {v : Int} {xs : List UInt8} {sp : List Value} (u : UInt8) (hx : Val true E x (.pointer (elt (some ⟨b, 0, none⟩) 1 j 0))) (hy : Val true E y (.int .u8 v)) (hv : v = u.toNat) [ht : TSize P T 1] [hb : Blk L b (.cells (flat encB xs sp).toArray U (c, c + 1))] (hj : j < xs.length) (hc : xs.length ≤ c)
  [hr : Rep L b (.cells (flat encB xs sp).toArray U (c, c + 1)) (.cells (flat encB (xs.set j u) sp).toArray U (c, c + 1)) L']
  (k : WL P n w0 L0 all rest E L' Q) : WL P n w0 L0 all (⟨none, .store T x y, ty, pos, aft, none⟩ :: rest) E L Q := by
 subst hv
 refine W.skp (w' := fun w => w.setRow b (flat encB (xs.set j u) sp).toArray) rfl rfl (fun a w ha hw => ?_) k
 have hbw := hw.has _ hb.h
 have hlen : j < (flat encB xs sp).toArray.size := by
  rw [List.size_toArray, flat, List.length_append, flat_bytes, List.length_map]; omega
 have hset : (flat encB xs sp).toArray.setIfInBounds j (.int .u8 u.toNat) = (flat encB (xs.set j u) sp).toArray := by
  have := flat_set (enc := encB) (m := 1) (fun _ => rfl) (u := .int .u8 u.toNat) xs sp j 0 u hj (by decide) (fun x hx => rfl)
  simp only [Nat.mul_one, Nat.add_zero] at this
  rw [← this]; simp
 have hst : (store ⟨b, j, none⟩ (.int .u8 u.toNat)).run P w = .ok () (w.setRow b (flat encB (xs.set j u) sp).toArray) := by
  have hcell : w.cell? ⟨b, j, none⟩ = some ((flat encB xs sp).toArray[j]'hlen) := by simp only [World.cell?, hbw]; simp [hlen]
  rw [run_store P w _ _ _ rfl, hcell]
  have hfz : w.frozen? ⟨b, j, none⟩ = false := by simp [World.frozen?, hbw]; omega
  simp only [hfz]
  rw [setCell_eq_setRow w b j _ U (c, c + 1) _ hbw, hset]; rfl
 have hsv : (storeVar T ⟨b, j, none⟩ (.int .u8 u.toNat)).run P w = .ok () (w.setRow b (flat encB (xs.set j u) sp).toArray) := by
  have hc1 : (Value.int .u8 (u.toNat : Int)).cells = #[Value.int .u8 u.toNat] := rfl
  have ha : (⟨b, j, none⟩ : Addr).add 0 = ⟨b, j, none⟩ := by simp [Addr.add_at]
  simp [storeVar, hc1, Sem.run_bind, TSize.run (T := T) w, storeCells, ha, hst]
 have hx' := hx.eval rfl ha
 simp only [elt, Option.map_some, Nat.zero_add, Nat.mul_one, Nat.add_zero] at hx'
 exact ⟨by simp [execOp, Instr.storeAt, Instr.sureAddr, hx', hy.eval rfl ha, Sem.run_bind, hsv], hw.setRow hr⟩
end
end Go.Proofs.YtfmdaijkgjkmpaaGreatDoor

set_option linter.unusedVariables false
set_option linter.unusedSimpArgs false
namespace Go.Proofs.YtfmdaijkgjkmpaaGreatDoor
open Go Go.RowKit
set_option maxRecDepth 100000 in
theorem nm_letter (x : UInt8) (w : World) : Fn Tryz.prog 141 [.int .u8 x.toNat] w [] fun v L' => v = .bool (isL x) ∧ L' = [] := by
 refine Fn.enter Tryz.func141 rfl rfl rfl rfl (Holds.nil w) ?_
 refine W.go ?_
 refine ⟨_, [], (RVs.tmp rfl RVs.nil), List.nil_sublist _, ?_⟩
 refine ⟨congrArg Value.bool ?_, rfl⟩
 simp only [isL]
 have e : ∀ k : Nat, decide ((x.toNat : Int) = (k : Int)) = decide (x.toNat = k) := fun k => decide_eq_decide.2 (by omega)
 have e2 : ∀ k : Nat, decide ((x.toNat : Int) ≤ (k : Int)) = decide (x.toNat ≤ k) := fun k => decide_eq_decide.2 (by omega)
 have e3 : ∀ k : Nat, decide ((k : Int) ≤ (x.toNat : Int)) = decide (k ≤ x.toNat) := fun k => decide_eq_decide.2 (by omega)
 have := e 45; have := e2 122; have := e2 57; have := e3 97; have := e3 48
 simp_all
set_option maxRecDepth 100000 in
theorem nm_Label (s : List UInt8) (w : World) (hn : s.length ≤ 140737488355328) : Fn Tryz.prog 118 [.string (S s)] w [] fun v L' => v = .bool (labOk s) ∧ L' = [] := by
 refine Fn.enter Tryz.func118 rfl rfl rfl rfl (Holds.nil w) ?_
 refine W.go ?_
 refine CW.loopA (X := Int) (fun i => [(0, true, .string (S s)), (5, true, .int .i64 s.length), (6, true, .int .i64 i)]) (fun i => []) (fun i => 0 ≤ i ∧ i ≤ s.length ∧ (s.take i.toNat).all isL = true) (fun i => (s.length - i).toNat) (0) ?_ ?_
 ·exact ⟨by omega, by omega, rfl⟩
 rintro i hI
 try dsimp only at hI ⊢
 obtain ⟨h0, h1, ha⟩ := hI
 refine W.go ?_
 refine CW.cond (vt rfl) (fun hc1 => ?_) (fun hc1 => ?_)
 ·try simp only [sk] at hc1
  refine W.go ?_
  first | refine W.p O.idxS ?_ | refine W.p (O.idxS (h := fun hg => by simp only [cond_true, cond_false, Bool.true_and, Bool.cond_false_right, Bool.cond_true_left, Bool.and_eq_true, Bool.or_eq_true, Bool.or_eq_false_iff, Bool.and_eq_false_iff, Bool.not_eq_true', Bool.not_eq_false', decide_eq_true_eq, decide_eq_false_iff_not, Int.reduceToNat] at *; omega)) ?_
  refine W.q (O.call ⟨rfl, rfl⟩ (AV.cons (vt rfl) (AV.nil)) (fun _ w hw => nm_letter _ w)) ?_
  refine W.go ?_
  refine CW.cond (vt rfl) (fun hc2 => ?_) (fun hc2 => ?_)
  ·try simp only [sk] at hc2
   refine W.go ?_
   refine ⟨_, [], (RVs.tmp rfl RVs.nil), List.nil_sublist _, ?_⟩
   refine ⟨congrArg Value.bool ?_, rfl⟩
   have hm : s.getD i.toNat 0 ∈ s := by rw [List.getD_eq_getElem?_getD, List.getElem?_eq_getElem (by omega)]; exact List.getElem_mem _
   have : s.all isL = false := by rw [List.all_eq_false]; exact ⟨_, hm, by simpa using hc2⟩
   simp [labOk, this]
  try simp only [sk] at hc2
  refine W.go ?_
  refine nextA (_) ?_ ?_
  ·try dsimp only
   refine ⟨by omega, by omega, ?_⟩
   rw [take_at' 0 h0 hc1, List.all_append, ha]; simpa using hc2
  ·try dsimp only
   omega
 try simp only [sk] at hc1
 refine W.go ?_
 refine ⟨_, [], (RVs.tmp rfl RVs.nil), List.nil_sublist _, ?_⟩
 refine ⟨congrArg Value.bool ?_, rfl⟩
 have e : i = s.length := by omega
 have ha' : s.all isL = true := by rw [e] at ha; simpa using ha
 have e3 : decide (1 ≤ (s.length : Int)) = decide (1 ≤ s.length) := decide_eq_decide.2 (by omega)
 have e4 : decide ((s.length : Int) ≤ 8) = decide (s.length ≤ 8) := decide_eq_decide.2 (by omega)
 simp only [labOk, ha']
 simp_all
set_option maxRecDepth 100000 in
theorem sl_IndexByte (s : List UInt8) (c : UInt8) (w : World) : Fn Tryz.prog 163 [.string (S s), .int .u8 c.toNat] w [] fun v L' => v = .int .i64 (ixb s c) ∧ L' = [] := by
 refine Fn.enter Tryz.func163 rfl rfl rfl rfl (Holds.nil w) ?_
 refine W.go ?_
 refine W.p (O.ixB ⟨rfl, rfl⟩ (vt rfl) (vt rfl) (vt rfl) Tryz.func178 (by kernel_rfl) (by kernel_rfl) (by kernel_rfl) (by kernel_rfl)) ?_
 refine W.go ?_
 refine ⟨_, [], (RVs.tmp rfl RVs.nil), List.nil_sublist _, ?_⟩
 exact ⟨rfl, rfl⟩
set_option maxRecDepth 100000 in
theorem sl_Index1 (s : List UInt8) (c : UInt8) (w : World) : Fn Tryz.prog 148 [.string (S s), .string (S [c])] w [] fun v L' => v = .int .i64 (ixb s c) ∧ L' = [] := by
 refine Fn.enter Tryz.func148 rfl rfl rfl rfl (Holds.nil w) ?_
 refine W.go ?_
 refine CW.cond (vt rfl) (fun hc1 => ?_) (fun hc1 => ?_)
 ·try simp only [sk] at hc1
  refine W.go ?_
  refine ⟨_, [], (RVs.tmp rfl RVs.nil), List.nil_sublist _, ?_⟩
  refine ⟨congrArg (Value.int .i64) ?_, rfl⟩
  rcases hc1 with h | h
  ·simp at h
  ·subst h; simp [ixb]
 try simp only [sk] at hc1
 refine W.go ?_
 refine CW.cond (vt rfl) (fun hc2 => ?_) (fun hc2 => ?_)
 ·try simp only [sk] at hc2
  refine W.go ?_
  first | refine W.p O.idxS ?_ | refine W.p (O.idxS (h := fun hg => by simp only [cond_true, cond_false, Bool.true_and, Bool.cond_false_right, Bool.cond_true_left, Bool.and_eq_true, Bool.or_eq_true, Bool.or_eq_false_iff, Bool.and_eq_false_iff, Bool.not_eq_true', Bool.not_eq_false', decide_eq_true_eq, decide_eq_false_iff_not, Int.reduceToNat] at *; omega)) ?_
  refine W.q (O.call ⟨rfl, rfl⟩ (AV.cons (vt rfl) (AV.cons (vt rfl) (AV.nil))) (fun _ w hw => sl_IndexByte s c w)) ?_
  refine W.go ?_
  refine ⟨_, [], (RVs.tmp rfl RVs.nil), List.nil_sublist _, ?_⟩
  refine ⟨congrArg (Value.int .i64) ?_, rfl⟩
  rfl
 simp at hc2
set_option maxRecDepth 100000 in
theorem sl_Cut1 (s : List UInt8) (c : UInt8) (w : World) (hn : s.length ≤ 140737488355328) : Fn Tryz.prog 140 [.string (S s), .string (S [c])] w [] fun v L' => v = .tuple #[.string (S (cutB c s).1), .string (S (cutB c s).2.1), .bool (cutB c s).2.2] ∧ L' = [] := by
 have hi := ixb_hi c s
 have hz1 : ([] : List UInt8).length = 0 := rfl
 have hz2 : ([c] : List UInt8).length = 1 := rfl
 refine Fn.enter Tryz.func140 rfl rfl rfl rfl (Holds.nil w) ?_
 refine W.go ?_
 refine W.q (O.call ⟨rfl, rfl⟩ (AV.cons (vt rfl) (AV.cons (vt rfl) (AV.nil))) (fun _ w hw => sl_Index1 s c w)) ?_
 refine W.go ?_
 refine CW.cond (vt rfl) (fun hc1 => ?_) (fun hc1 => ?_)
 ·try simp only [sk] at hc1
  refine CW.seq ?_
  refine CW.draw 12 rfl (by kernel_rfl) ?_
  refine WQ.p O.mv ?_
  refine WQ.p O.mv ?_
  refine WQ.p O.slcH ?_
  refine WQ.p O.mv ?_
  refine WQ.p O.mv ?_
  refine WQ.p O.mv ?_
  refine WQ.p O.len ?_
  first | refine WQ.p O.addN ?_ | refine WQ.p O.add ?_
  refine WQ.p O.slcL ?_
  refine WQ.p O.as ?_
  refine WQ.p O.as ?_
  refine WQ.p O.as ?_
  refine WQ.nil ?_
  refine WL.nil (Q.tn ?_)
  refine W.go ?_
  refine ⟨_, [], (RVs.tmp rfl (RVs.tmp rfl (RVs.tmp rfl RVs.nil))), List.nil_sublist _, ?_⟩
  refine ⟨?_, rfl⟩
  rw [cutB, if_pos hc1]; rfl
 try simp only [sk] at hc1
 refine W.go ?_
 refine ⟨_, [], (RVs.tmp rfl (RVs.tmp rfl (RVs.tmp rfl RVs.nil))), List.nil_sublist _, ?_⟩
 refine ⟨?_, rfl⟩
 rw [cutB, if_neg hc1]; rfl
set_option maxRecDepth 100000 in
theorem st_Cut1 (s : List UInt8) (c : UInt8) (w : World) (hn : s.length ≤ 140737488355328) : Fn Tryz.prog 117 [.string (S s), .string (S [c])] w [] fun v L' => v = .tuple #[.string (S (cutB c s).1), .string (S (cutB c s).2.1), .bool (cutB c s).2.2] ∧ L' = [] := by
 refine Fn.enter Tryz.func117 rfl rfl rfl rfl (Holds.nil w) ?_
 refine W.go ?_
 refine W.q (O.call ⟨rfl, rfl⟩ (AV.cons (vt rfl) (AV.cons (vt rfl) (AV.nil))) (fun _ w hw => sl_Cut1 s c w hn)) ?_
 refine W.go ?_
 refine ⟨_, [], (RVs.tmp rfl (RVs.tmp rfl (RVs.tmp rfl RVs.nil))), List.nil_sublist _, ?_⟩
 exact ⟨rfl, rfl⟩
set_option maxRecDepth 100000 in
theorem nm_May (s : List UInt8) (w : World) (hn : s.length ≤ 140737488355328) : Fn Tryz.prog 77 [.string (S s)] w [] fun v L' => v = .bool (nmMay s) ∧ L' = [] := by
 refine Fn.enter Tryz.func77 rfl rfl rfl rfl (Holds.nil w) ?_
 refine W.go ?_
 refine CW.loopA (X := Int × (List UInt8) × Bool) (fun ⟨k, rest, more⟩ => [(3, true, .int .i64 k), (4, true, .string (S rest)), (5, true, .bool more)]) (fun ⟨k, rest, more⟩ => []) (fun ⟨k, rest, more⟩ => 0 ≤ k ∧ k ≤ 8 ∧ rest.length ≤ s.length ∧ nmMay s = nmF k rest more) (fun ⟨k, rest, more⟩ => rest.length + (bif more then 1 else 0)) (0, s, !decide (s = [])) ?_ ?_
 ·exact ⟨by omega, by omega, by omega, nmMay_F s⟩
 rintro ⟨k, rest, more⟩ hI
 try dsimp only at hI ⊢
 obtain ⟨h0, h1, h2, hr⟩ := hI
 have hcl := cut_len 46 rest
 refine W.go ?_
 refine CW.cond (vt rfl) (fun hc1 => ?_) (fun hc1 => ?_)
 ·try simp only [sk] at hc1
  refine W.go ?_
  refine W.q (O.call ⟨rfl, rfl⟩ (AV.cons (vt rfl) (AV.cons (vt rfl) (AV.nil))) (fun _ w hw => st_Cut1 _ 46 w (by omega))) ?_
  refine W.go ?_
  refine W.q (O.call ⟨rfl, rfl⟩ (AV.cons (vt rfl) (AV.nil)) (fun _ w hw => nm_Label _ w (by omega))) ?_
  refine W.go ?_
  refine CW.cond (vt rfl) (fun hc2 => ?_) (fun hc2 => ?_)
  ·try simp only [sk] at hc2
   refine W.go ?_
   refine ⟨_, [], (RVs.tmp rfl RVs.nil), List.nil_sublist _, ?_⟩
   refine ⟨congrArg Value.bool ?_, rfl⟩
   rw [hr, hc1, nmF_step]
   rcases hc2 with h | h
   ·rw [h]; rfl
   ·rw [decide_eq_false (by omega)]; simp
  try simp only [sk] at hc2
  refine W.go ?_
  refine nextA (_, (cutB 46 rest).2.1, (cutB 46 rest).2.2) ?_ ?_
  ·try dsimp only
   subst hc1
   rw [nmF_step] at hr
   refine ⟨by omega, by omega, by omega, ?_⟩
   rw [hr, hc2.1, decide_eq_true (by omega)]; rfl
  ·try dsimp only
   subst hc1; cases hm : (cutB 46 rest).2.2 <;> simp only [hm, cond_true, cond_false, if_true] at hcl ⊢ <;> (try simp at hcl) <;> omega
 try simp only [sk] at hc1
 refine W.go ?_
 refine ⟨_, [], (RVs.tmp rfl RVs.nil), List.nil_sublist _, ?_⟩
 refine ⟨congrArg Value.bool ?_, rfl⟩
 rw [hr]; simp [nmF, hc1]
theorem lower_int (b : UInt8) (h : 65 ≤ b.toNat ∧ b.toNat ≤ 90) : IntKind.u8.wrap (IntKind.u8.wrap ((b.toNat : Int) + 97) - 65) = ((lower b).toNat : Int) := by
 rw [lower, if_pos h, UInt8.toNat_add]
 show ((b.toNat + 97 : Int) % 256 - 65) % 256 = _
 simp only [UInt8.toNat_ofNat]; omega
theorem lower_int2 (b : UInt8) (h : 65 ≤ b.toNat ∧ b.toNat ≤ 90) : IntKind.u8.wrap ((b.toNat : Int) + 32) = ((lower b).toNat : Int) := by
 rw [lower, if_pos h, UInt8.toNat_add]
 show ((b.toNat + 32 : Int) % 256) = _
 simp only [UInt8.toNat_ofNat]; omega
set_option maxRecDepth 100000 in
theorem nm_Fold (s : List UInt8) (w : World) (hn : s.length ≤ 140737488355328) : Fn Tryz.prog 175 [.string (S s)] w [] fun v L' => v = .string (S (fold s)) ∧ L' = [] := by
 refine Fn.enter Tryz.func175 rfl rfl rfl rfl (Holds.nil w) ?_
 refine CW.seq ?_
 refine CW.region ?_
 refine W.p O.as ?_
 refine WL.nil (Q.tn ?_)
 refine CW.seq ?_
 refine CW.region ?_
 refine W.p O.mv ?_
 refine W.cvSB rfl (vt rfl) fun b1 c1 sp1 le1 => ?_
 refine W.go ?_
 refine CW.loopA (X := Int × (List UInt8)) (fun ⟨i, xs⟩ => [(3, true, .slice (some ⟨b1, 0, none⟩) s.length c1), (8, true, .slice (some ⟨b1, 0, none⟩) s.length c1), (9, true, .int .i64 s.length), (10, true, .int .i64 i)]) (fun ⟨i, xs⟩ => [(b1, .cells (flat encB xs sp1).toArray 5 (c1, c1 + 1))]) (fun ⟨i, xs⟩ => 0 ≤ i ∧ i ≤ s.length ∧ xs.length = s.length ∧ xs = (s.take i.toNat).map lower ++ s.drop i.toNat) (fun ⟨i, xs⟩ => (s.length - i).toNat) (0, s) ?_ ?_
 ·exact ⟨by omega, by omega, rfl, by simp⟩
 rintro ⟨i, xs⟩ hI
 try dsimp only at hI ⊢
 obtain ⟨h0, h1, hl, hx⟩ := hI
 refine W.go ?_
 refine CW.cond (vt rfl) (fun hc1 => ?_) (fun hc1 => ?_)
 ·try simp only [sk] at hc1
  refine W.go ?_
  refine CW.cond (vt rfl) (fun hc2 => ?_) (fun hc2 => ?_)
  ·try simp only [sk] at hc2
   refine W.go ?_
   refine W.stZ (lower (xs.getD i.toNat 0)) (vt rfl) (vt rfl) (by exact lower_int _ (by omega)) (by omega) (by omega) ?_
   refine W.go ?_
   refine nextA (_, xs.set i.toNat (lower (xs.getD i.toNat 0))) ?_ ?_
   ·try dsimp only
    have e := fold_step h0 hc1 hl hx
    refine ⟨by omega, by omega, by simpa using hl, e⟩
   ·try dsimp only
    omega
  try simp only [sk] at hc2
  refine W.go ?_
  refine nextA (_, xs) ?_ ?_
  ·try dsimp only
   have e := fold_step h0 hc1 hl hx
   have e2 : lower (xs.getD i.toNat 0) = xs.getD i.toNat 0 := by rw [lower, if_neg (by omega)]
   rw [e2] at e
   refine ⟨by omega, by omega, hl, ?_⟩
   rw [← e, List.getD_eq_getElem?_getD, List.getElem?_eq_getElem (by omega)]; simp
  ·try dsimp only
   omega
 try simp only [sk] at hc1
 refine W.go ?_
 refine W.p (O.cvRow ⟨rfl, rfl⟩ (vt rfl) (by first | rfl | omega) (fun _ => ⟨_, rfl⟩)) ?_
 refine W.go ?_
 refine ⟨_, [], (RVs.tmp rfl RVs.nil), List.nil_sublist _, ?_⟩
 refine ⟨?_, rfl⟩
 have e : i = s.length := by omega
 rw [hx, e]; simp [fold]; rfl
end Go.Proofs.YtfmdaijkgjkmpaaGreatDoor

set_option linter.unusedVariables false
set_option linter.unusedSimpArgs false
namespace Go.Proofs.YtfmdaijkgjkmpaaGreatDoor
open Go Go.RowKit
theorem In.drop {w : World} {a : Option Addr} {α : Type} {enc : α → List Value} {m : Nat} {xs : List α} (h : In w a (xs.flatMap enc)) (hm : ∀ x, (enc x).length = m) (k : Nat) (hk : k ≤ xs.length) : In w (elt a m k 0) ((xs.drop k).flatMap enc) := by
 have hl : ∀ l : List α, (l.flatMap enc).length = l.length * m := fun l => by
  induction l with
  | nil => simp
  | cons x r ih => rw [List.flatMap_cons, List.length_append, hm, ih, List.length_cons, Nat.add_mul]; omega
 have e : xs.flatMap enc = (xs.take k).flatMap enc ++ (xs.drop k).flatMap enc := by rw [← List.flatMap_append, List.take_append_drop]
 rcases h with h | ⟨b, o, arr, U, fz, rfl, hb, hc⟩
 ·refine .inl ?_
  rw [e] at h
  exact (List.append_eq_nil_iff.1 h).2
 ·refine .inr ⟨b, o + (k * m + 0), arr, U, fz, rfl, hb, fun j hj => ?_⟩
  have h1 : ((xs.take k).flatMap enc).length = k * m := by rw [hl, List.length_take, Nat.min_eq_left hk]
  have := hc (k * m + j) (by rw [e, List.length_append, h1]; omega)
  rw [show o + (k * m + 0) + j = o + (k * m + j) by omega, this, e, List.getElem?_append_right (by omega), h1]
  congr 1; omega
section
variable {P : Program} {ρ : Operand → Value} {D : Option Tmp} {d n : Nat} {w0 w : World} {L0 L L' : Heap} {all rest : List Oper} {E : Env} {Q : Post} {x y z : Operand} {T T' U ty : TypeId} {pos : String} {aft : Array Edge} {g : Option (Nat × Bool)} {G : Bool}
theorem r_capL {a : Option Addr} {m c : Nat} {u : TypeId} (hx : ρ x = .slice a m c) (hT : P.underlying T = some (.slice u)) : (execOp ρ ⟨D, .call ⟨.builtin .cap, #[x], #[T]⟩, ty, pos, aft, g⟩).run P w = .ok (.value (.int .i64 c)) w := by
 simp [execOp, hx, go_sem, hT]
theorem O.capL {q : Option Addr} {m c : Nat} {u : TypeId} [TSlice P T u] (hp : Pre n all E g d G := by exact ⟨rfl, rfl⟩) (hx : Val G E x (.slice q m c) := by first | exact vt rfl | exact vs rfl) : QV P n w0 L0 all ⟨some d, .call ⟨.builtin .cap, #[x], #[T]⟩, ty, pos, aft, g⟩ E L d G (.int .i64 c) :=
 O.val rfl hp (fun hG a w ha hw => by rw [r_capL (hx.eval hG ha) (TSlice.h)])
/-- 'copy' of nothing -/
theorem O.cp0 {a q : Option Addr} {m c c' : Nat} [hT : TSlice P T U] [hS : TSize P U 1] (hp : Pre n all E g d G := by exact ⟨rfl, rfl⟩) (hx : Val G E x (.slice q m c) := by first | exact vt rfl | exact vs rfl) (hy : Val G E y (.slice a 0 c') := by first | exact vt rfl | exact vs rfl) : QV P n w0 L0 all ⟨some d, .call ⟨.builtin .copy, #[x, y], #[T, T']⟩, ty, pos, aft, g⟩ E L d G (.int .i64 0) :=
 O.val rfl hp (fun hG A w ha hw => by
  have := run_copy_none (P := P) w T T' ty U q a m c 0 c' hT.h hS.h (by simp)
  simp [execOp, resolve, invoke, builtin, Sem.run_bind, hx.eval hG ha, hy.eval hG ha, this, goInt])
theorem r_slL {a : Option Addr} {len cap m : Nat} {j : Int} {k : IntKind} (hx : ρ x = .slice a len cap) (hz : ρ z = .int k j) [hT : TSlice P T U] [hU : TSize P U m] (h0 : 0 ≤ j) (h1 : j ≤ len) (h2 : len ≤ cap) (h3 : j < cap) :
  (execOp ρ ⟨D, .slice T x (some z) none none, ty, pos, aft, g⟩).run P w = .ok (.value (.slice (a.map (·.add (j.toNat * m))) (len - j.toNat) (cap - j.toNat))) w := by
 have e : cap - j.toNat ≠ 0 := by omega
 simp [execOp, go_sem, run_underlying hT.h, Instr.sliceAt, Instr.slice, Instr.sliceBounds, Instr.sliceBound, asIntOf, hx, hz, h0, h1, h2, TSize.run (T := U) w, Sem.run_bind]
 first | (intro h; omega) | skip
/-- a slice's end -/
theorem O.slL {α : Type} {a : Option Addr} {dv : α} {enc : α → List Value} {xs : List α} {len cap m : Nat} {j : Int} {k : IntKind} [hT : TSlice P T U] [hU : TSize P U m] (hp : Pre n all E g d G := by exact ⟨rfl, rfl⟩) (hx : Val G E x (.slice a len cap) := by first | exact vt rfl | exact vs rfl) (hz : Val G E z (.int k j) := by first | exact vt rfl | exact vs rfl) (h : G = true → 0 ≤ j ∧ j ≤ len ∧ len ≤ cap ∧ j < cap := by (intro _; omega)) [r : RowL w0 L0 L a m α dv enc xs] (hne : xs ≠ [] := by first | assumption | (intro e; simp [e] at *; done)) :
  QV P n w0 L0 all ⟨some d, .slice T x (some z) none none, ty, pos, aft, g⟩ E L d G (.slice (elt a m j.toNat 0) (len - j.toNat) (cap - j.toNat)) :=
 O.val rfl hp (fun hG A w ha hw => by
  have := r_slL (P := P) (T := T) (D := some d) (ty := ty) (pos := pos) (aft := aft) (g := g) (U := U) (m := m) (w := w) (hx.eval hG ha) (hz.eval hG ha) (h hG).1 (h hG).2.1 (h hG).2.2.1 (h hG).2.2.2
  rcases r.h w hw with h0 | ⟨b, o, arr, U2, fz, rfl, _⟩
  ·cases xs with
   | nil => exact absurd rfl hne
   | cons x r' => have h1 := r.hm x; have h2 := r.pos; have := congrArg List.length h0; rw [List.flatMap_cons, List.length_append, h1, List.length_nil] at this; omega
  rw [this]; simp [elt, Addr.add_at])
theorem r_ext1 {f : FuncId} {v p : Value} {w' : World} {Ts : Array TypeId} (hz : ρ z = .func (.func f) #[] #[]) (hx : ρ x = p) (hc : (callFunc f #[p]).run P w = .ok (.value v) w') : (execOp ρ ⟨D, .call ⟨.value z, #[x], Ts⟩, ty, pos, aft, g⟩).run P w = .ok (.value v) w' := by
 simp [execOp, hz, hx, go_sem, hc]
/-- 'bytealg.MakeNoZero' -/
theorem W.mnz {f : FuncId} {fn : Func} {k : Int} {Ts ps : Array TypeId} {t : TypeId} [hts : TSlice P t U] (hn : Nat.blt d n = true) (hz : Val true E z (.func (.func f) #[] #[])) (hx : Val true E x (.int .i64 k)) (hk : 0 ≤ k ∧ k ≤ 140737488355328) (hf : P.funcs[f]? = some fn) (hname : (fn.name == "runtime.NumGoroutine") = false)
  (hb : fn.body.isNone = true) (hx2 : Extern.findNext fn = none) (he : Extern.find fn = some (Extern.BytealgMakeNoZero.makeNoZero ps #[t]))
  (kk : ∀ b c sp, k.toNat ≤ c → c ≤ maxLen → sp.length = c → WL P n w0 L0 all rest ((d, true, .slice (oa (some b)) k.toNat c) :: E) (rowL (some b) U (flat encB [] sp) ++ L) Q) : WL P n w0 L0 all (⟨some d, .call ⟨.value z, #[x], Ts⟩, ty, pos, aft, none⟩ :: rest) E L Q :=
 W.loud rfl rfl hn (R := fun v L2 => ∃ b c sp, k.toNat ≤ c ∧ c ≤ maxLen ∧ sp.length = c ∧ v = .slice (oa (some b)) k.toNat c ∧ L2 = rowL (some b) U (flat encB [] sp) ++ L) (fun A w ha hw => by
  obtain ⟨q, rfl⟩ := Int.eq_ofNat_of_zero_le hk.1
  have hq : q ≤ 140737488355328 := by have := hk.2; omega
  obtain ⟨cs, hrun, hle, hmax⟩ := Lib.run_makeNoZero (P := P) w ps t U hts.h q (by omega)
  have h := run_callFunc_extern hf hname hb hx2 he #[.int .i64 q] w
  rw [hrun] at h
  refine ⟨.slice (oa (some w.heap.size)) q cs.size, w.drew.drew.alloc (.cells cs U), rowL (some w.heap.size) U (flat encB [] cs.toList) ++ L, ?_, ?_, w.heap.size, cs.size, cs.toList, by simpa using hle, hmax (by unfold maxLen; omega), by simp, rfl, rfl⟩
  ·exact r_ext1 (hz.eval rfl ha) (hx.eval rfl ha) h
  ·have := ((hw.same (w' := w.drew.drew) rfl rfl rfl rfl).alloc (.cells cs U))
   simpa [rowL, flat] using this) (by
  rintro v L2 ⟨b, c, sp, h1, h2, h3, rfl, rfl⟩
  exact kk b c sp h1 h2 h3)
end
set_option maxRecDepth 100000 in
theorem bd_grow0 (b n : Nat) (w : World) (hL : Holds [BdO b (some ⟨b, 0, none⟩) (.slice none 0 0)] w) (h1 : 1 ≤ n) (hn : n ≤ 70368744177664) :
  Fn Tryz.prog 177 [.pointer (some ⟨b, 0, none⟩), .int .i64 n] w [BdO b (some ⟨b, 0, none⟩) (.slice none 0 0)] fun v' L' => Bd b [] L' := by
 refine Fn.enter Tryz.func177 rfl rfl rfl rfl hL ?_
 refine CW.seq ?_
 refine CW.drawHL rfl ?_
 refine RH.qa 0 rfl (O.mv) ?_
 refine RH.qa 1 rfl (O.nc) ?_
 first | refine RH.qa 2 rfl (O.fb) ?_ | refine RH.qa 2 rfl (O.fa) ?_
 refine RH.qa 3 rfl (O.ld) ?_
 refine RH.qa 4 rfl (O.capL) ?_
 first | refine RH.qa 5 rfl (O.mulN) ?_ | refine RH.qa 5 rfl (O.mul) ?_
 refine RH.qa 6 rfl (O.mv) ?_
 first | refine RH.qa 7 rfl (O.addN) ?_ | refine RH.qa 7 rfl (O.add) ?_
 refine RH.qa 9 rfl (O.mv) ?_
 refine RH.qa 10 rfl (O.nc) ?_
 first | refine RH.qa 11 rfl (O.fb) ?_ | refine RH.qa 11 rfl (O.fa) ?_
 refine RH.qa 12 rfl (O.ld) ?_
 refine RH.qa 13 rfl (O.lenL) ?_
 refine RH.one (i := 8) (fun _ _ h => h) (by kernel_rfl) rfl ?_
 refine W.mnz (ps := #[3]) (t := 113) rfl (vt rfl) (vt rfl) (by omega) Tryz.func184 (by kernel_rfl) (by kernel_rfl) (by kernel_rfl) (by kernel_rfl) fun b1 c1 sp1 le1 lx1 ls1 => ?_
 refine WL.nilQa ?_
 refine RH.qa 14 rfl (O.slH) ?_
 refine RH.qa 15 rfl (O.as) ?_
 refine RH.done (by kernel_rfl) (Q.tn ?_)
 refine W.go ?_
 refine W.p O.cp0 ?_
 refine W.go ?_
 first | refine W.st (vt rfl) (vt rfl) rfl ?_ | refine W.st (u := .slice _ _ _) (vt rfl) (vt rfl) rfl ?_
 refine WL.nil ?_
 refine ⟨_, _, RVs.nil, List.Sublist.refl _, ?_⟩
 exact ⟨_, some b1, c1, sp1, .inr rfl, ⟨by simp, by simp [ls1], by simp, lx1⟩, fun _ _ => by omega, rfl⟩
set_option maxRecDepth 100000 in
theorem bd_Grow0 (b n : Nat) (w : World) (hL : Holds [BdO b none (.slice none 0 0)] w) (hn : n ≤ 70368744177664) :
  Fn Tryz.prog 159 [.pointer (some ⟨b, 0, none⟩), .int .i64 n] w [BdO b none (.slice none 0 0)] fun v' L' => Bd b [] L' := by
 refine Fn.enter Tryz.func159 rfl rfl rfl rfl hL ?_
 refine W.go ?_
 refine W.callS (first := []) (cap := []) _ rfl (vt rfl) (AV.cons (vt rfl) (AV.nil)) (fun w hu hh => bd_check b none none 0 0 w (.inl rfl) hh) ?_; rintro _ _ rfl
 refine W.go ?_
 refine CW.cond (vt rfl) (fun hc1 => ?_) (fun hc1 => ?_)
 ·exact absurd (of_decide_eq_true hc1) (by omega)
 try simp only [sk] at hc1
 refine W.go ?_
 refine CW.draw 13 rfl (by kernel_rfl) ?_
 refine WQ.p O.mv ?_
 refine WQ.p O.nc ?_
 first | refine WQ.p O.fb ?_ | refine WQ.p O.fa ?_
 refine WQ.p O.ld ?_
 refine WQ.p O.capL ?_
 refine WQ.p O.mv ?_
 refine WQ.p O.nc ?_
 first | refine WQ.p O.fb ?_ | refine WQ.p O.fa ?_
 refine WQ.p O.ld ?_
 refine WQ.p O.lenL ?_
 first | refine WQ.p O.subN ?_ | refine WQ.p O.sub ?_
 refine WQ.p O.mv ?_
 refine WQ.p O.lss ?_
 refine WQ.nil ?_
 refine WL.nil (Q.tn ?_)
 refine CW.cond (vt rfl) (fun hc2 => ?_) (fun hc2 => ?_)
 ·try simp only [sk] at hc2
  refine W.go ?_
  refine W.callS (first := []) (cap := []) _ rfl (vt rfl) (AV.cons (vt rfl) (AV.cons (vt rfl) (AV.nil))) (fun w hu hh => bd_grow0 b n w hh (by omega) hn) ?_; rintro _ Lb hB
  refine WL.nil ?_
  refine ⟨_, _, RVs.nil, List.Sublist.refl _, ?_⟩
  first | (simpa using hB) | exact ⟨_, none, 0, [], .inr rfl, OwnOk.nil, by simp, rfl⟩
 try simp only [sk] at hc2
 refine W.go ?_
 refine ⟨_, _, RVs.nil, List.Sublist.refl _, ?_⟩
 first | (simpa using hB) | exact ⟨_, none, 0, [], .inr rfl, OwnOk.nil, by simp, rfl⟩
set_option maxRecDepth 100000 in
theorem st_Join1 (ls : List (List UInt8)) (q : UInt8) (a : Option Addr) (c : Nat) (w : World) (h : In w a (ls.flatMap encS)) (hc : ls.length ≤ c) (hn : ls.flatten.length + ls.length ≤ 70368744177664) :
  Fn Tryz.prog 145 [.slice a ls.length c, .string (S [q])] w [] fun v L' => v = .string (S (joinB q ls)) ∧ L' = [] := by
 have row := Row.ofE h
 have hz1 : ([] : List UInt8).length = 0 := rfl
 have hz2 : ([q] : List UInt8).length = 1 := rfl
 refine Fn.enter Tryz.func145 rfl rfl rfl rfl (Holds.nil w) ?_
 refine W.go ?_
 refine CW.cond (vt rfl) (fun hc1 => ?_) (fun hc1 => ?_)
 ·try simp only [sk] at hc1
  refine W.go ?_
  refine ⟨_, [], (RVs.tmp rfl RVs.nil), List.nil_sublist _, ?_⟩
  refine ⟨?_, rfl⟩
  have : ls = [] := List.eq_nil_of_length_eq_zero (by omega)
  subst this; rfl
 try simp only [sk] at hc1
 refine W.go ?_
 refine CW.cond (vt rfl) (fun hc2 => ?_) (fun hc2 => ?_)
 ·try simp only [sk] at hc2
  refine W.go ?_
  refine ⟨_, [], (RVs.tmp rfl RVs.nil), List.nil_sublist _, ?_⟩
  refine ⟨?_, rfl⟩
  obtain ⟨l, rfl⟩ := List.length_eq_one_iff.1 (show ls.length = 1 by omega)
  simp [joinB, oneOr]
 try simp only [sk] at hc2
 have row2 := Row.ofE (In.drop (m := 1) h (fun _ => rfl) 1 (by omega))
 have hne : ls ≠ [] := by intro e; rw [e] at hc1; exact hc1 rfl
 refine W.go ?_
 refine CW.cond (vt rfl) (fun hc3 => ?_) (fun hc3 => ?_)
 ·try simp only [sk] at hc3
  refine W.go ?_
  first | refine W.p O.quoN ?_ | refine W.p O.quo ?_
  refine W.go ?_
  refine CW.cond (vt rfl) (fun hc4 => ?_) (fun hc4 => ?_)
  ·(exfalso; replace hc4 := of_decide_eq_true hc4; have h5 : (2 : Int) ≤ 9223372036854775807 / ((ls.length : Int) - 1) := (Int.le_ediv_iff_mul_le (by omega)).2 (by omega); omega)
  try simp only [sk] at hc4
  refine W.go ?_
  first | refine W.p O.mulN ?_ | refine W.p O.mul ?_
  refine W.go ?_
  refine CW.loopA (X := Int × Int) (fun ⟨i, k⟩ => [(0, true, .slice a ls.length c), (1, true, .string (S [q])), (5, true, .int .i64 k), (39, true, .slice a ls.length c), (40, true, .int .i64 ls.length), (41, true, .int .i64 i)]) (fun ⟨i, k⟩ => []) (fun ⟨i, k⟩ => 0 ≤ i ∧ i ≤ ls.length ∧ k = (ls.length : Int) - 1 + (ls.take i.toNat).flatten.length) (fun ⟨i, k⟩ => (ls.length - i).toNat) (0, _) ?_ ?_
  ·refine ⟨by omega, by omega, ?_⟩
   simp only [hz2, Int.toNat_zero, List.take_zero, List.flatten_nil, List.length_nil]
   rw [wrap_in _ (by rw [wrap_in _ (by omega)]; omega), wrap_in _ (by omega)]; omega
  rintro ⟨i, k⟩ hI
  try dsimp only at hI ⊢
  obtain ⟨h0, h1, hk⟩ := hI
  have hft := flat_take ls i.toNat
  have hfg := flat_getD ls i.toNat
  refine W.go ?_
  refine CW.cond (vt rfl) (fun hc5 => ?_) (fun hc5 => ?_)
  ·try simp only [sk] at hc5
   refine W.go ?_
   refine CW.cond (vt rfl) (fun hc6 => ?_) (fun hc6 => ?_)
   ·exact absurd (of_decide_eq_true hc6) (by omega)
   try simp only [sk] at hc6
   refine W.go ?_
   refine nextA (_, _) ?_ ?_
   ·try dsimp only
    have := flat_step h0 hc5
    exact ⟨by omega, by omega, by omega⟩
   ·try dsimp only
    omega
  try simp only [sk] at hc5
  refine W.go ?_
  refine W.al rfl rfl fun b1 => ?_
  refine W.go ?_
  refine W.callS (first := []) (cap := []) _ rfl (vt rfl) (AV.cons (vt rfl) (AV.cons (vt rfl) (AV.nil))) (fun w hu hh => (by have := bd_Grow0 b1 k.toNat w hh (by omega); rwa [show ((k.toNat : Nat) : Int) = k by omega] at this)) ?_; rintro _ Lb0 hB0
  refine W.go ?_
  refine W.callS (first := []) (cap := []) _ rfl (vt rfl) (AV.cons (vt rfl) (AV.cons (vt rfl) (AV.nil))) (fun w hu hh => bd_str w hB0 hh (by have hf0 := flat_getD ls (0 : Int).toNat; rw [List.length_nil]; omega)) ?_; rintro _ Lb1 hB1
  refine W.go ?_
  refine W.p O.slL ?_
  refine W.go ?_
  refine CW.loopA (X := Int × Heap) (fun ⟨i, Lb⟩ => [(1, true, .string (S [q])), (8, true, .pointer (some ⟨b1, 0, none⟩)), (63, true, .slice (elt a 1 1 0) (ls.length - 1) (c - 1)), (64, true, .int .i64 ((ls.length - 1 : Nat) : Int)), (65, true, .int .i64 i)]) (fun ⟨i, Lb⟩ => Lb) (fun ⟨i, Lb⟩ => 0 ≤ i ∧ i ≤ (ls.length - 1 : Nat) ∧ Bd b1 (joinB q (ls.take (i.toNat + 1))) Lb) (fun ⟨i, Lb⟩ => ((ls.length - 1 : Nat) - i).toNat) (0, Lb1) ?_ ?_
  ·refine ⟨by omega, by omega, ?_⟩
   have e : joinB q (ls.take ((0 : Int).toNat + 1)) = [] ++ ls.getD (0 : Int).toNat [] := by cases ls with | nil => exact absurd rfl hne | cons l r => simp [joinB]
   rw [e]; exact hB1
  rintro ⟨i, Lb⟩ hI
  try dsimp only at hI ⊢
  obtain ⟨h0, h1, hB⟩ := hI
  have hjl := joinB_len q (ls.take (i.toNat + 1))
  have hft := flat_take ls (i.toNat + 1)
  have hfg := flat_getD (ls.drop 1) i.toNat
  have hfd : (ls.drop 1).flatten.length ≤ ls.flatten.length := by cases ls with | nil => simp | cons l r => simp
  have htl : (ls.take (i.toNat + 1)).length ≤ ls.length := List.length_take_le' _ _
  have hdl : (ls.drop 1).length = ls.length - 1 := List.length_drop
  refine W.go ?_
  refine CW.cond (vt rfl) (fun hc7 => ?_) (fun hc7 => ?_)
  ·try simp only [sk] at hc7
   refine W.go ?_
   refine W.callS (first := []) (cap := []) _ rfl (vt rfl) (AV.cons (vt rfl) (AV.cons (vt rfl) (AV.nil))) (fun w hu hh => bd_str w hB hh (by omega)) ?_; rintro _ Lb2 hB2
   refine W.go ?_
   refine W.callS (first := []) (cap := []) _ rfl (vt rfl) (AV.cons (vt rfl) (AV.cons (vt rfl) (AV.nil))) (fun w hu hh => bd_str w hB2 hh (by simp only [List.length_append]; omega)) ?_; rintro _ Lb3 hB3
   refine W.go ?_
   refine nextA (_, Lb3) ?_ ?_
   ·try dsimp only
    refine ⟨by omega, by omega, ?_⟩
    rw [show (i + 1).toNat + 1 = i.toNat + 2 by omega, joinB_step q (by omega)]
    exact hB3
   ·try dsimp only
    omega
  try simp only [sk] at hc7
  refine W.go ?_
  refine W.callS (first := []) (cap := []) _ rfl (vt rfl) (AV.cons (vt rfl) (AV.nil)) (fun w hu hh => bd_string w hB hh) ?_; rintro _ _ rfl
  refine W.go ?_
  refine ⟨_, [], (RVs.tmp rfl RVs.nil), List.nil_sublist _, ?_⟩
  refine ⟨?_, rfl⟩
  rw [show i.toNat + 1 = ls.length by omega, List.take_length]; rfl
 exact absurd (of_decide_eq_false hc3) (by omega)
end Go.Proofs.YtfmdaijkgjkmpaaGreatDoor
