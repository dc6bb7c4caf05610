/- What packet.fields and packet.May come to. Condition: the row of options is not longer than some 2^47. -/
import Derived.Test.YtkjcmdgideddnaaLies
import Derived.Test.YtkjcmdgideddnaaLaw0O
set_option linter.unusedVariables false
set_option linter.unusedSimpArgs false
namespace Go.Proofs.Ytkjcmdgideddnaa
open Go Go.RowKit
structure Pkt where
  op : Int
  htype : Int
  hops : Int
  xid : Int
  secs : Int
  flags : Int
  ciaddr : Int
  yiaddr : Int
  siaddr : Int
  giaddr : Int
  chaddr : List UInt8
  opts : List Opt
deriving DecidableEq
abbrev encPk (p : Pkt) (a : Option Addr) (c : Nat) : List Value := [.int .i64 p.op, .int .i64 p.htype, .int .i64 p.hops, .int .i64 p.xid, .int .i64 p.secs, .int .i64 p.flags, .int .i64 p.ciaddr, .int .i64 p.yiaddr, .int .i64 p.siaddr, .int .i64 p.giaddr, .string (S p.chaddr), .slice a p.opts.length c]
abbrev vPk (p : Pkt) (a : Option Addr) (c : Nat) : Value := .agg (encPk p a c).toArray
abbrev encF : (Addr × Int) → List Value := fun p => [.pointer (some p.1), .int .i64 p.2]
abbrev dF : Addr × Int := (⟨0, 0, none⟩, 0)
instance : Enc encF 2 dF := ⟨fun _ => rfl, by decide⟩
instance : EncOne encF := ⟨fun x u hu => by simp at hu; rcases hu with rfl | rfl <;> rfl⟩
/-- a packet's numbers: where, and of how many bytes -/
abbrev fieldsL (b l : Nat) : List (Addr × Int) := [(⟨b, 0, none⟩, 1), (⟨b, 1, none⟩, 1), (⟨l, 0, none⟩, 1), (⟨b, 2, none⟩, 1), (⟨b, 3, none⟩, 4), (⟨b, 4, none⟩, 2), (⟨b, 5, none⟩, 2), (⟨b, 6, none⟩, 4), (⟨b, 7, none⟩, 4), (⟨b, 8, none⟩, 4), (⟨b, 9, none⟩, 4)]
abbrev FV (p : Pkt) (long : Int) : List Int := [p.op, p.htype, long, p.hops, p.xid, p.secs, p.flags, p.ciaddr, p.yiaddr, p.siaddr, p.giaddr]
abbrev PFK : List Int := [1, 1, 1, 1, 4, 2, 2, 4, 4, 4, 4]
def fits (x k : Int) : Bool := decide (0 ≤ x) && decide (x < 256 ^ k.toNat)
theorem mem_at3 {α : Type} (d : α) {xs : List α} {i : Int} (h0 : 0 ≤ i) (h1 : i < xs.length) : xs.getD i.toNat d ∈ xs := by
  rw [List.getD_eq_getElem?_getD, List.getElem?_eq_getElem (by omega)]; exact List.getElem_mem _
def anyOdd (xs : List (Addr × Int)) (vs : List Int) : Bool := (List.range xs.length).any fun i => !fits (vs.getD i 0) (xs.getD i dF).2
/-- a cell that can be read, whatever else goes on -/
class Cell (w0 : World) (L0 L : Heap) (q : Addr) (v : outParam Value) : Prop where h : ∀ w, Upd w0 L0 w L → In w (some q) [v]
theorem O.ldC {P : Program} {d n : Nat} {w0 : World} {L0 L : Heap} {all : List Oper} {E : Env} {x : Operand} {T ty : TypeId} {pos : String} {aft : Array Edge} {g : Option (Nat × Bool)} {G : Bool} {q : Addr} {v : Value} [TScal P T] (hp : Pre n all E g d G := by exact ⟨rfl, rfl⟩) (hx : Val G E x (.pointer (some q)) := by first | exact vt rfl | exact vs rfl | exact vi rfl and1 | exact vi rfl (fun h => and1 (and1 h)) | exact vi rfl (by simp +contextual)) [c : Cell w0 L0 L q v] :
    QV P n w0 L0 all ⟨some d, .load T x, ty, pos, aft, g⟩ E L d G v :=
  O.val rfl hp (fun hG A w ha hw => by
    rcases c.h w hw with h | ⟨b, p, arr, U', fz, he, hb, hc⟩
    · cases h
    · cases he
      have h0 := hc 0 (by simp)
      have hb' : w.heap[b]? = some (.cells arr.toList.toArray U' fz) := by simpa using hb
      have := run_load_one (P := P) (T := T) (o := p) (v := v) hb' (by simpa using h0)
      simp [execOp, Instr.loadAt, Instr.sureAddr, hx.eval hG ha, Sem.run_bind, this])
theorem W.offc {P : Program} {d n : Nat} {w0 : World} {L0 L : Heap} {all rest : List Oper} {E : Env} {Q : Post} {o : Oper} (v : Value) (hd : o.dst = some d) (hn : Nat.blt d n = true) (hg : gd all E o.guard = some false) (k : WL P n w0 L0 all rest ((d, false, v) :: E) L Q) : WL P n w0 L0 all (o :: rest) E L Q := by
  intro a w ha hw
  have h1 := gd_wanted ha hg
  have hlt : d < n := by simpa using hn
  have := k _ w (ha.put (G := false) (v := v) hlt) hw
  unfold wpList
  rw [if_neg (by rw [h1]; decide), hd]
  exact this
theorem shr_zero {x k : Int} (hk : k = 1 ∨ k = 2 ∨ k = 4) (h0 : 0 ≤ x) : decide (x / 2 ^ (8 * k).toNat = 0) = decide (x < 256 ^ k.toNat) := by
  rcases hk with rfl | rfl | rfl
  · have e1 : (2 : Int) ^ ((8 : Int) * 1).toNat = 256 := by decide
    have e2 : (256 : Int) ^ (1 : Int).toNat = 256 := by decide
    rw [e1, e2]; exact decide_eq_decide.2 (by omega)
  · have e1 : (2 : Int) ^ ((8 : Int) * 2).toNat = 65536 := by decide
    have e2 : (256 : Int) ^ (2 : Int).toNat = 65536 := by decide
    rw [e1, e2]; exact decide_eq_decide.2 (by omega)
  · have e1 : (2 : Int) ^ ((8 : Int) * 4).toNat = 4294967296 := by decide
    have e2 : (256 : Int) ^ (4 : Int).toNat = 4294967296 := by decide
    rw [e1, e2]; exact decide_eq_decide.2 (by omega)
set_option maxRecDepth 100000 in
theorem be_Fits (x k : Int) (w : World) (hk : k = 1 ∨ k = 2 ∨ k = 4) : Fn Try.prog 121 [.int .i64 x, .int .i64 k] w [] fun v L' => v = .bool (fits x k) ∧ L' = [] := by
  refine Fn.enter Try.func121 rfl rfl rfl rfl (Holds.nil w) ?_
  refine CW.seq ?_
  refine CW.region ?_
  refine W.p O.as ?_
  refine WL.nil (Q.tn ?_)
  refine CW.seq ?_
  refine CW.region ?_
  refine W.p O.mv ?_
  refine W.p O.geq ?_
  refine W.p O.mv ?_
  refine W.p O.mv ?_
  refine W.p O.mv ?_
  first | refine W.p O.mulN ?_ | refine W.p O.mul ?_
  refine W.p O.shr ?_
  refine W.p O.eqI ?_
  refine W.p O.pkB ?_
  refine W.p O.as ?_
  refine WL.nil (Q.tn ?_)
  refine CW.ret ?_
  refine ⟨_, [], (RVs.tmp rfl RVs.nil), List.nil_sublist _, ?_⟩
  refine ⟨congrArg Value.bool ?_, rfl⟩
  by_cases h : 0 ≤ x
  · rw [shr_zero hk h, fits, decide_eq_true h]; rfl
  · rw [fits, decide_eq_false h]; rfl
set_option maxRecDepth 100000 in
theorem pk_odd (q : Addr) (x k : Int) (w : World) (h : In w (some q) [.int .i64 x]) (hk : k = 1 ∨ k = 2 ∨ k = 4) : Fn Try.prog 120 [.agg #[.pointer (some q), .int .i64 k]] w [] fun v L' => v = .bool (!fits x k) ∧ L' = [] := by
  have cell : ∀ {L : Heap}, Cell w [] L q (.int .i64 x) := fun {L} => ⟨fun w' hw => (h.lies.step hw (List.nil_sublist _)).in⟩
  refine Fn.enter Try.func120 rfl rfl rfl rfl (Holds.nil w) ?_
  refine CW.seq ?_
  refine CW.region ?_
  refine W.bx rfl (vt rfl) rfl fun b1 => ?_
  refine W.p O.as ?_
  refine WL.nil (Q.tn ?_)
  refine CW.seq ?_
  refine CW.draw 9 rfl (by kernel_rfl) ?_
  first | refine WQ.p O.fb ?_ | refine WQ.p O.fa ?_
  first | refine WQ.p O.ld ?_ | refine WQ.p O.ldC ?_
  refine WQ.p O.nc ?_
  first | refine WQ.p O.ld ?_ | refine WQ.p O.ldC ?_
  first | refine WQ.p O.fb ?_ | refine WQ.p O.fa ?_
  first | refine WQ.p O.ld ?_ | refine WQ.p O.ldC ?_
  refine WQ.q (O.call ⟨rfl, rfl⟩ (AV.cons (vt rfl) (AV.cons (vt rfl) (AV.nil))) (fun _ w hw => be_Fits _ _ w hk)) ?_
  refine WQ.p O.nt ?_
  refine WQ.p O.as ?_
  refine WQ.nil ?_
  refine WL.nil (Q.tn ?_)
  refine CW.ret ?_
  refine ⟨_, [], (RVs.tmp rfl RVs.nil), List.nil_sublist _, ?_⟩
  exact ⟨rfl, rfl⟩
set_option maxRecDepth 100000 in
theorem pk_fields (b l : Nat) (w : World) : Fn Try.prog 113 [.pointer (some ⟨b, 0, none⟩), .pointer (some ⟨l, 0, none⟩)] w [] (Fresh encF 168 2 (fieldsL b l)) := by
  refine Fn.enter Try.func113 rfl rfl rfl rfl (Holds.nil w) ?_
  refine CW.seq ?_
  refine CW.region ?_
  refine W.p O.as ?_
  refine WL.nil (Q.tn ?_)
  refine CW.seq ?_
  refine CW.draw 42 rfl (by kernel_rfl) ?_
  refine WQ.p O.mv ?_
  refine WQ.p O.nc ?_
  first | refine WQ.p O.fb ?_ | refine WQ.p O.fa ?_
  refine WQ.p (O.bd (hv := PV.cons (vt rfl) (PV.cons (vt rfl) (PV.nil)))) ?_
  refine WQ.p O.mv ?_
  refine WQ.p O.nc ?_
  first | refine WQ.p O.fb ?_ | refine WQ.p O.fa ?_
  refine WQ.p (O.bd (hv := PV.cons (vt rfl) (PV.cons (vt rfl) (PV.nil)))) ?_
  refine WQ.p O.mv ?_
  refine WQ.p (O.bd (hv := PV.cons (vt rfl) (PV.cons (vt rfl) (PV.nil)))) ?_
  refine WQ.p O.mv ?_
  refine WQ.p O.nc ?_
  first | refine WQ.p O.fb ?_ | refine WQ.p O.fa ?_
  refine WQ.p (O.bd (hv := PV.cons (vt rfl) (PV.cons (vt rfl) (PV.nil)))) ?_
  refine WQ.p O.mv ?_
  refine WQ.p O.nc ?_
  first | refine WQ.p O.fb ?_ | refine WQ.p O.fa ?_
  refine WQ.p (O.bd (hv := PV.cons (vt rfl) (PV.cons (vt rfl) (PV.nil)))) ?_
  refine WQ.p O.mv ?_
  refine WQ.p O.nc ?_
  first | refine WQ.p O.fb ?_ | refine WQ.p O.fa ?_
  refine WQ.p (O.bd (hv := PV.cons (vt rfl) (PV.cons (vt rfl) (PV.nil)))) ?_
  refine WQ.p O.mv ?_
  refine WQ.p O.nc ?_
  first | refine WQ.p O.fb ?_ | refine WQ.p O.fa ?_
  refine WQ.p (O.bd (hv := PV.cons (vt rfl) (PV.cons (vt rfl) (PV.nil)))) ?_
  refine WQ.p O.mv ?_
  refine WQ.p O.nc ?_
  first | refine WQ.p O.fb ?_ | refine WQ.p O.fa ?_
  refine WQ.p (O.bd (hv := PV.cons (vt rfl) (PV.cons (vt rfl) (PV.nil)))) ?_
  refine WQ.p O.mv ?_
  refine WQ.p O.nc ?_
  first | refine WQ.p O.fb ?_ | refine WQ.p O.fa ?_
  refine WQ.p (O.bd (hv := PV.cons (vt rfl) (PV.cons (vt rfl) (PV.nil)))) ?_
  refine WQ.p O.mv ?_
  refine WQ.p O.nc ?_
  first | refine WQ.p O.fb ?_ | refine WQ.p O.fa ?_
  refine WQ.p (O.bd (hv := PV.cons (vt rfl) (PV.cons (vt rfl) (PV.nil)))) ?_
  refine WQ.p O.mv ?_
  refine WQ.p O.nc ?_
  first | refine WQ.p O.fb ?_ | refine WQ.p O.fa ?_
  refine WQ.p (O.bd (hv := PV.cons (vt rfl) (PV.cons (vt rfl) (PV.nil)))) ?_
  refine WQ.nil ?_
  refine W.bs encF (fieldsL b l) rfl (PV.cons (vt rfl) (PV.cons (vt rfl) (PV.cons (vt rfl) (PV.cons (vt rfl) (PV.cons (vt rfl) (PV.cons (vt rfl) (PV.cons (vt rfl) (PV.cons (vt rfl) (PV.cons (vt rfl) (PV.cons (vt rfl) (PV.cons (vt rfl) (PV.nil)))))))))))) rfl rfl rfl (by decide) rfl fun b1 => ?_
  refine W.p O.as ?_
  refine WL.nil (Q.tn ?_)
  refine CW.ret ?_
  refine ⟨_, rowL (some b1) 168 (flat encF (fieldsL b l) []), (RVs.tmp rfl RVs.nil), (by repeat (first | exact List.Sublist.refl _ | exact hSub _ | exact List.sublist_append_left _ _ | exact List.nil_sublist _ | refine List.Sublist.append (List.Sublist.refl _) ?_ | apply List.Sublist.cons_cons | apply List.Sublist.cons | exact List.sublist_append_left _ _ | refine List.Sublist.trans ?_ (List.sublist_append_right _ _))), ?_⟩
  exact ⟨some b1, 11, [], rfl, ⟨by simp, by simp, by simp, by decide⟩, rfl⟩
theorem any_up {xs : List (Addr × Int)} {vs : List Int} {i : Int} (h0 : 0 ≤ i) : ((List.range (i + 1).toNat).any fun j => !fits (vs.getD j 0) (xs.getD j dF).2) = (((List.range i.toNat).any fun j => !fits (vs.getD j 0) (xs.getD j dF).2) || !fits (vs.getD i.toNat 0) (xs.getD i.toNat dF).2) := by
  rw [show (i + 1).toNat = i.toNat + 1 by omega, List.range_succ, List.any_append]; simp
set_option maxRecDepth 100000 in
theorem ix_Field (xs : List (Addr × Int)) (vs : List Int) (a : Option Addr) (c : Nat) (w : World) (h : In w a (xs.flatMap encF)) (hn : xs.length ≤ 1000) (hv : ∀ i : Int, 0 ≤ i → i < xs.length → In w (some (xs.getD i.toNat dF).1) [.int .i64 (vs.getD i.toNat 0)]) (hk : ∀ p ∈ xs, p.2 = 1 ∨ p.2 = 2 ∨ p.2 = 4) :
    Fn Try.prog 163 [.slice a xs.length c, (.func (.func 120) #[] #[])] w [] fun v L' => ∃ k : Int, v = .int .i64 k ∧ L' = [] ∧ decide (0 ≤ k) = anyOdd xs vs := by
  have row := Row.ofE h
  refine Fn.enter Try.func163 rfl rfl rfl rfl (Holds.nil w) ?_
  refine CW.seq ?_
  refine CW.region ?_
  refine W.p O.as ?_
  refine WL.nil (Q.tn ?_)
  refine CW.seq ?_
  refine CW.seq ?_
  refine CW.region ?_
  refine W.p O.mv ?_
  refine W.p O.lenL ?_
  refine W.p O.mv ?_
  refine WL.nil (Q.tn ?_)
  refine CW.block ?_
  refine CW.loop (X := Int) (fun i => [(0, true, .slice a xs.length c), (1, true, (.func (.func 120) #[] #[])), (7, true, .int .i64 xs.length), (8, true, .int .i64 i)]) (fun i => []) (fun i => 0 ≤ i ∧ i ≤ xs.length ∧ ((List.range i.toNat).any fun j => !fits (vs.getD j 0) (xs.getD j dF).2) = false) (fun i => (xs.length - i).toNat) (0) ?_ (by repeat (first | exact trivial | refine ⟨rfl, ?_⟩ | refine ⟨by (simp only [List.length_set]; rfl), ?_⟩)) (by repeat (first | exact List.Sublist.refl _ | exact List.sublist_append_left _ _ | exact List.nil_sublist _ | refine List.Sublist.append (List.Sublist.refl _) ?_ | apply List.Sublist.cons_cons | apply List.Sublist.cons | refine List.Sublist.trans ?_ (List.sublist_append_right _ _))) ?_
  · exact ⟨by omega, by omega, rfl⟩
  rintro i hI
  try dsimp only at hI ⊢
  obtain ⟨h0, h1, hr⟩ := hI
  refine CW.seq ?_
  refine CW.region ?_
  refine W.p O.lss ?_
  refine WL.nil (Q.tn ?_)
  refine CW.seq ?_
  refine CW.cond (vt rfl) (fun hc1 => ?_) (fun hc1 => ?_)
  · try simp only [Bool.cond_true_left, Bool.cond_false_right, Bool.or_eq_true, Bool.or_eq_false_iff, Bool.and_eq_true, Bool.and_eq_false_iff, decide_eq_true_eq, decide_eq_false_iff_not, Bool.not_eq_true', Bool.not_eq_false'] at hc1
    refine CW.skip (Q.tn ?_)
    refine CW.seq ?_
    refine CW.block ?_
    refine CW.seq ?_
    refine CW.region ?_
    refine W.p O.mv ?_
    refine W.p O.as ?_
    refine WL.nil (Q.tn ?_)
    refine CW.seq ?_
    refine CW.region ?_
    refine W.p O.mv ?_
    refine W.p O.mv ?_
    refine W.p O.mv ?_
    refine W.p O.ixA ?_
    refine W.p O.ldsE ?_
    refine W.callN (first := []) (cap := []) rfl (vt rfl) (AV.cons (vt rfl) (AV.nil)) (fun w hu => pk_odd (xs.getD i.toNat dF).1 (vs.getD i.toNat 0) (xs.getD i.toNat dF).2 w ((hv i h0 hc1).lies.step hu (List.nil_sublist _)).in (hk _ (mem_at3 dF h0 hc1))) ?_; rintro _ _ ⟨rfl, rfl⟩
    refine WL.nil (Q.tn ?_)
    refine CW.cond (vt rfl) (fun hc2 => ?_) (fun hc2 => ?_)
    · try simp only [Bool.cond_true_left, Bool.cond_false_right, Bool.or_eq_true, Bool.or_eq_false_iff, Bool.and_eq_true, Bool.and_eq_false_iff, decide_eq_true_eq, decide_eq_false_iff_not, Bool.not_eq_true', Bool.not_eq_false'] at hc2
      refine CW.seq ?_
      refine CW.region ?_
      refine W.p O.mv ?_
      refine W.p O.as ?_
      refine WL.nil (Q.tn ?_)
      refine CW.ret (Q.br (Q.tr (Q.tr (Q.br (Q.tr ?_)))))
      refine ⟨_, [], (RVs.tmp rfl RVs.nil), List.nil_sublist _, ?_⟩
      refine ⟨i, rfl, rfl, ?_⟩
      rw [decide_eq_true h0, eq_comm, anyOdd, List.any_eq_true]
      exact ⟨i.toNat, by simp; omega, by rw [hc2]; rfl⟩
    try simp only [Bool.cond_true_left, Bool.cond_false_right, Bool.or_eq_true, Bool.or_eq_false_iff, Bool.and_eq_true, Bool.and_eq_false_iff, decide_eq_true_eq, decide_eq_false_iff_not, Bool.not_eq_true', Bool.not_eq_false'] at hc2
    refine CW.skip (Q.bn (Q.tn ?_))
    refine CW.region ?_
    first | refine W.p O.addN ?_ | refine W.p O.add ?_
    refine W.p O.mv ?_
    refine WL.nil (Q.tn ?_)
    refine ⟨(_), ?_, ?_, (by repeat (first | exact trivial | refine ⟨rfl, ?_⟩ | refine ⟨by (simp only [List.length_set]; rfl), ?_⟩)), (by repeat (first | exact List.Sublist.refl _ | exact List.sublist_append_left _ _ | exact List.nil_sublist _ | refine List.Sublist.append (List.Sublist.refl _) ?_ | apply List.Sublist.cons_cons | apply List.Sublist.cons | refine List.Sublist.trans ?_ (List.sublist_append_right _ _)))⟩
    · try dsimp only
      exact ⟨by omega, by omega, by rw [any_up h0, hr, hc2]; rfl⟩
    · try dsimp only
      omega
  try simp only [Bool.cond_true_left, Bool.cond_false_right, Bool.or_eq_true, Bool.or_eq_false_iff, Bool.and_eq_true, Bool.and_eq_false_iff, decide_eq_true_eq, decide_eq_false_iff_not, Bool.not_eq_true', Bool.not_eq_false'] at hc1
  refine CW.exit (Q.te (Q.te (Q.bx (Q.tn ?_))))
  refine CW.seq ?_
  refine CW.region ?_
  refine W.p O.as ?_
  refine WL.nil (Q.tn ?_)
  refine CW.ret ?_
  refine ⟨_, [], (RVs.tmp rfl RVs.nil), List.nil_sublist _, ?_⟩
  refine ⟨-1, rfl, rfl, ?_⟩
  rw [anyOdd, show xs.length = i.toNat by omega, hr]; rfl
set_option maxRecDepth 100000 in
theorem cf_Field (xs : List (Addr × Int)) (vs : List Int) (a : Option Addr) (c : Nat) (w : World) (h : In w a (xs.flatMap encF)) (hn : xs.length ≤ 1000) (hv : ∀ i : Int, 0 ≤ i → i < xs.length → In w (some (xs.getD i.toNat dF).1) [.int .i64 (vs.getD i.toNat 0)]) (hk : ∀ p ∈ xs, p.2 = 1 ∨ p.2 = 2 ∨ p.2 = 4) :
    Fn Try.prog 122 [.slice a xs.length c, (.func (.func 120) #[] #[])] w [] fun v L' => v = .bool (anyOdd xs vs) ∧ L' = [] := by
  have row := Row.ofE h
  refine Fn.enter Try.func122 rfl rfl rfl rfl (Holds.nil w) ?_
  refine CW.seq ?_
  refine CW.region ?_
  refine W.p O.as ?_
  refine WL.nil (Q.tn ?_)
  refine CW.seq ?_
  refine CW.region ?_
  refine W.p O.mv ?_
  refine W.p O.mv ?_
  refine W.callN (first := []) (cap := []) rfl (vt rfl) (AV.cons (vt rfl) (AV.cons (vt rfl) (AV.nil))) (fun w hu => ix_Field xs vs _ _ w (row.h _ w hu) hn (fun i h0 h1 => ((hv i h0 h1).lies.step hu (List.nil_sublist _)).in) hk) ?_; rintro _ _ ⟨k, rfl, rfl, hk2⟩
  refine W.p O.geq ?_
  refine W.p O.as ?_
  refine WL.nil (Q.tn ?_)
  refine CW.ret ?_
  refine ⟨_, [], (RVs.tmp rfl RVs.nil), List.nil_sublist _, ?_⟩
  rw [← hk2]; exact ⟨rfl, rfl⟩
/-- a packet's numbers in the heap -/
theorem pk_cells {w0 w : World} {L0 L : Heap} {b1 b2 : Nat} {p : Pkt} {a : Option Addr} {c : Nat} {long : Int} (hw : Upd w0 L0 w L) [h1 : Blk L b1 (.cells (encPk p a c).toArray 72 (0, 0))] [h2 : Blk L b2 (.cells [.int .i64 long].toArray 3 (0, 0))] :
    ∀ i : Int, 0 ≤ i → i < (fieldsL b1 b2).length → In w (some ((fieldsL b1 b2).getD i.toNat dF).1) [.int .i64 ((FV p long).getD i.toNat 0)] := by
  intro i h0 hi
  have hi : i < 11 := hi
  rcases (by omega : i = 0 ∨ i = 1 ∨ i = 2 ∨ i = 3 ∨ i = 4 ∨ i = 5 ∨ i = 6 ∨ i = 7 ∨ i = 8 ∨ i = 9 ∨ i = 10) with rfl | rfl | rfl | rfl | rfl | rfl | rfl | rfl | rfl | rfl | rfl
  case inr.inr.inl => exact .inr ⟨b2, 0, _, _, _, rfl, hw.has _ h2.h, fun k hk => by simp at hk; subst hk; rfl⟩
  all_goals exact .inr ⟨b1, _, _, _, _, rfl, hw.has _ h1.h, fun k hk => by simp at hk; subst hk; rfl⟩
theorem fields_k (b l : Nat) : ∀ p ∈ fieldsL b l, p.2 = 1 ∨ p.2 = 2 ∨ p.2 = 4 := by simp
def pkMay (p : Pkt) : Bool := decide (p.chaddr.length ≤ 16) && optsMay p.opts && !anyOdd (fieldsL 0 1) (FV p p.chaddr.length)
set_option maxRecDepth 100000 in
theorem pk_May_t (p : Pkt) (a : Option Addr) (c : Nat) (w : World) (h : In w a (p.opts.flatMap encO)) (hn : p.opts.length ≤ 140737488355328) (h16 : p.chaddr.length ≤ 16) (hm : optsMay p.opts = true) : Fn Try.prog 62 [vPk p a c] w [] fun v L' => v = .bool (pkMay p) ∧ L' = [] := by
  have row := Row.ofE h
  refine Fn.enter Try.func62 rfl rfl rfl rfl (Holds.nil w) ?_
  refine CW.seq ?_
  refine CW.region ?_
  refine W.bx rfl (vt rfl) rfl fun b1 => ?_
  refine W.p O.as ?_
  refine WL.nil (Q.tn ?_)
  refine CW.seq ?_
  refine CW.region ?_
  first | refine W.p O.fb ?_ | refine W.p O.fa ?_
  refine W.p O.ld ?_
  refine W.p O.len ?_
  refine W.al rfl rfl fun b2 => ?_
  first | refine W.st (vt rfl) (vt rfl) rfl ?_ | refine W.st (u := .int _ _) (vt rfl) (vt rfl) rfl ?_
  refine WL.nil (Q.tn ?_)
  refine CW.seq ?_
  refine CW.region ?_
  refine W.p O.as ?_
  refine WL.nil (Q.tn ?_)
  refine CW.seq ?_
  refine CW.region ?_
  refine W.p O.ld ?_
  refine W.p O.leq ?_
  first | (refine WL.kn (v := true) (by rfl) ?_ ?_; focus (exact decide_eq_true (by omega))) | (refine WL.kn (v := false) (by rfl) ?_ ?_; focus (exact decide_eq_true (by omega)))
  refine W.p O.mv ?_
  first | refine W.p O.fb ?_ | refine W.p O.fa ?_
  refine W.p O.ld ?_
  refine W.q (O.call ⟨rfl, rfl⟩ (AV.cons (vs rfl) (AV.nil)) (fun _ w hw => opts_May _ _ _ w (row.h _ w hw) hn)) ?_
  first | (refine WL.kn (v := true) (by rfl) ?_ ?_; focus (exact hm)) | (refine WL.kn (v := false) (by rfl) ?_ ?_; focus (exact hm))
  refine W.p O.pkB ?_
  refine W.p O.mv ?_
  refine W.ug rfl ?_
  refine W.callN (first := []) (cap := []) rfl (vt rfl) (AV.cons (vt rfl) (AV.cons (vt rfl) (AV.nil))) (fun w hu => pk_fields _ _ w) ?_; rintro _ _ ⟨o11, c11, sp11, rfl, ok11, rfl⟩; have nk11 := ok11.nk
  refine W.p O.mv ?_
  refine W.q (O.call ⟨rfl, rfl⟩ (AV.cons (vt rfl) (AV.cons (vs rfl) (AV.nil))) (fun _ w hw => cf_Field (fieldsL b1 b2) (FV p p.chaddr.length) _ _ w (RowL.h _ hw) (by simp) (pk_cells hw) (fields_k b1 b2))) ?_
  refine W.p O.nt ?_
  refine W.p O.pkB ?_
  refine W.p O.as ?_
  refine WL.nil (Q.tn ?_)
  refine CW.ret ?_
  refine ⟨_, [], (RVs.tmp rfl RVs.nil), List.nil_sublist _, ?_⟩
  refine ⟨congrArg Value.bool ?_, rfl⟩
  rw [pkMay, decide_eq_true h16, hm]; rfl
set_option maxRecDepth 100000 in
theorem pk_May_f (p : Pkt) (a : Option Addr) (c : Nat) (w : World) (h : In w a (p.opts.flatMap encO)) (hn : p.opts.length ≤ 140737488355328) (h16 : ¬ p.chaddr.length ≤ 16) : Fn Try.prog 62 [vPk p a c] w [] fun v L' => v = .bool (pkMay p) ∧ L' = [] := by
  have row := Row.ofE h
  refine Fn.enter Try.func62 rfl rfl rfl rfl (Holds.nil w) ?_
  refine CW.seq ?_
  refine CW.region ?_
  refine W.bx rfl (vt rfl) rfl fun b1 => ?_
  refine W.p O.as ?_
  refine WL.nil (Q.tn ?_)
  refine CW.seq ?_
  refine CW.region ?_
  first | refine W.p O.fb ?_ | refine W.p O.fa ?_
  refine W.p O.ld ?_
  refine W.p O.len ?_
  refine W.al rfl rfl fun b2 => ?_
  first | refine W.st (vt rfl) (vt rfl) rfl ?_ | refine W.st (u := .int _ _) (vt rfl) (vt rfl) rfl ?_
  refine WL.nil (Q.tn ?_)
  refine CW.seq ?_
  refine CW.region ?_
  refine W.p O.as ?_
  refine WL.nil (Q.tn ?_)
  refine CW.seq ?_
  refine CW.region ?_
  refine W.p O.ld ?_
  refine W.p O.leq ?_
  first | (refine WL.kn (v := true) (by rfl) ?_ ?_; focus (exact decide_eq_false (by omega))) | (refine WL.kn (v := false) (by rfl) ?_ ?_; focus (exact decide_eq_false (by omega)))
  refine W.p O.mv ?_
  first | refine W.p O.fb ?_ | refine W.p O.fa ?_
  refine W.p O.ld ?_
  refine W.q (O.call ⟨rfl, rfl⟩ (AV.cons (vs rfl) (AV.nil)) (fun _ w hw => opts_May _ _ _ w (row.h _ w hw) hn)) ?_
  refine W.p O.pkB ?_
  refine W.p O.mv ?_
  refine (W.offc (.slice none 0 0) rfl rfl rfl ?_)
  refine W.p O.mv ?_
  refine (W.offc (.bool false) rfl rfl rfl ?_)
  refine W.p O.nt ?_
  refine W.p O.pkB ?_
  refine W.p O.as ?_
  refine WL.nil (Q.tn ?_)
  refine CW.ret ?_
  refine ⟨_, [], (RVs.tmp rfl RVs.nil), List.nil_sublist _, ?_⟩
  refine ⟨congrArg Value.bool ?_, rfl⟩
  rw [pkMay, decide_eq_false h16]; rfl
set_option maxRecDepth 100000 in
theorem pk_May_g (p : Pkt) (a : Option Addr) (c : Nat) (w : World) (h : In w a (p.opts.flatMap encO)) (hn : p.opts.length ≤ 140737488355328) (h16 : p.chaddr.length ≤ 16) (hm : optsMay p.opts = false) : Fn Try.prog 62 [vPk p a c] w [] fun v L' => v = .bool (pkMay p) ∧ L' = [] := by
  have row := Row.ofE h
  refine Fn.enter Try.func62 rfl rfl rfl rfl (Holds.nil w) ?_
  refine CW.seq ?_
  refine CW.region ?_
  refine W.bx rfl (vt rfl) rfl fun b1 => ?_
  refine W.p O.as ?_
  refine WL.nil (Q.tn ?_)
  refine CW.seq ?_
  refine CW.region ?_
  first | refine W.p O.fb ?_ | refine W.p O.fa ?_
  refine W.p O.ld ?_
  refine W.p O.len ?_
  refine W.al rfl rfl fun b2 => ?_
  first | refine W.st (vt rfl) (vt rfl) rfl ?_ | refine W.st (u := .int _ _) (vt rfl) (vt rfl) rfl ?_
  refine WL.nil (Q.tn ?_)
  refine CW.seq ?_
  refine CW.region ?_
  refine W.p O.as ?_
  refine WL.nil (Q.tn ?_)
  refine CW.seq ?_
  refine CW.region ?_
  refine W.p O.ld ?_
  refine W.p O.leq ?_
  first | (refine WL.kn (v := true) (by rfl) ?_ ?_; focus (exact decide_eq_true (by omega))) | (refine WL.kn (v := false) (by rfl) ?_ ?_; focus (exact decide_eq_true (by omega)))
  refine W.p O.mv ?_
  first | refine W.p O.fb ?_ | refine W.p O.fa ?_
  refine W.p O.ld ?_
  refine W.q (O.call ⟨rfl, rfl⟩ (AV.cons (vs rfl) (AV.nil)) (fun _ w hw => opts_May _ _ _ w (row.h _ w hw) hn)) ?_
  first | (refine WL.kn (v := true) (by rfl) ?_ ?_; focus (exact hm)) | (refine WL.kn (v := false) (by rfl) ?_ ?_; focus (exact hm))
  refine W.p O.pkB ?_
  refine W.p O.mv ?_
  refine (W.offc (.slice none 0 0) rfl rfl rfl ?_)
  refine W.p O.mv ?_
  refine (W.offc (.bool false) rfl rfl rfl ?_)
  refine W.p O.nt ?_
  refine W.p O.pkB ?_
  refine W.p O.as ?_
  refine WL.nil (Q.tn ?_)
  refine CW.ret ?_
  refine ⟨_, [], (RVs.tmp rfl RVs.nil), List.nil_sublist _, ?_⟩
  refine ⟨congrArg Value.bool ?_, rfl⟩
  rw [pkMay, hm]; simp
theorem pk_May (p : Pkt) (a : Option Addr) (c : Nat) (w : World) (h : In w a (p.opts.flatMap encO)) (hn : p.opts.length ≤ 140737488355328) : Fn Try.prog 62 [vPk p a c] w [] fun v L' => v = .bool (pkMay p) ∧ L' = [] := by
  by_cases h16 : p.chaddr.length ≤ 16
  · cases hm : optsMay p.opts with
    | true => exact pk_May_t p a c w h hn h16 hm
    | false => exact pk_May_g p a c w h hn h16 hm
  · exact pk_May_f p a c w h hn h16
theorem anyOdd_at (b l : Nat) (vs : List Int) : anyOdd (fieldsL b l) vs = anyOdd (fieldsL 0 1) vs := rfl
end Go.Proofs.Ytkjcmdgideddnaa
