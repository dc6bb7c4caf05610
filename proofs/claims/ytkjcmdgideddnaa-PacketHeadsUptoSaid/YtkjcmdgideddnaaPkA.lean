/- Several texts in one (PkA). Their conditions are their own. -/
import Derived.Test.YtkjcmdgideddnaaLies
import Derived.Test.YtkjcmdgideddnaaLaw0O
import Derived.Test.YtkjcmdgideddnaaRep
import Derived.Test.YtkjcmdgideddnaaClr
import Derived.Test.YtkjcmdgideddnaaRrTk0
set_option linter.unusedVariables false
set_option linter.unusedSimpArgs false
namespace Go.Proofs.Ytkjcmdgideddnaa
open Go Go.RowKit
structure Pkt where
  op : Int
  htype : Int
  hops : Int
  xid : Int
  secs : Int
  flags : Int
  ciaddr : Int
  yiaddr : Int
  siaddr : Int
  giaddr : Int
  chaddr : List UInt8
  opts : List Opt
deriving DecidableEq
abbrev encPk (p : Pkt) (a : Option Addr) (c : Nat) : List Value := [.int .i64 p.op, .int .i64 p.htype, .int .i64 p.hops, .int .i64 p.xid, .int .i64 p.secs, .int .i64 p.flags, .int .i64 p.ciaddr, .int .i64 p.yiaddr, .int .i64 p.siaddr, .int .i64 p.giaddr, .string (S p.chaddr), .slice a p.opts.length c]
abbrev vPk (p : Pkt) (a : Option Addr) (c : Nat) : Value := .agg (encPk p a c).toArray
abbrev encF : (Addr × Int) → List Value := fun p => [.pointer (some p.1), .int .i64 p.2]
abbrev dF : Addr × Int := (⟨0, 0, none⟩, 0)
instance : Enc encF 2 dF := ⟨fun _ => rfl, by decide⟩
instance : EncOne encF := ⟨fun x u hu => by simp at hu; rcases hu with rfl | rfl <;> rfl⟩
/-- a packet's numbers: where, and of how many bytes -/
abbrev fieldsL (b l : Nat) : List (Addr × Int) := [(⟨b, 0, none⟩, 1), (⟨b, 1, none⟩, 1), (⟨l, 0, none⟩, 1), (⟨b, 2, none⟩, 1), (⟨b, 3, none⟩, 4), (⟨b, 4, none⟩, 2), (⟨b, 5, none⟩, 2), (⟨b, 6, none⟩, 4), (⟨b, 7, none⟩, 4), (⟨b, 8, none⟩, 4), (⟨b, 9, none⟩, 4)]
abbrev FV (p : Pkt) (long : Int) : List Int := [p.op, p.htype, long, p.hops, p.xid, p.secs, p.flags, p.ciaddr, p.yiaddr, p.siaddr, p.giaddr]
abbrev PFK : List Int := [1, 1, 1, 1, 4, 2, 2, 4, 4, 4, 4]
def fits (x k : Int) : Bool := decide (0 ≤ x) && decide (x < 256 ^ k.toNat)
theorem mem_at3 {α : Type} (d : α) {xs : List α} {i : Int} (h0 : 0 ≤ i) (h1 : i < xs.length) : xs.getD i.toNat d ∈ xs := by
  rw [List.getD_eq_getElem?_getD, List.getElem?_eq_getElem (by omega)]; exact List.getElem_mem _
def anyOdd (xs : List (Addr × Int)) (vs : List Int) : Bool := (List.range xs.length).any fun i => !fits (vs.getD i 0) (xs.getD i dF).2
/-- a cell that can be read, whatever else goes on -/
class Cell (w0 : World) (L0 L : Heap) (q : Addr) (v : outParam Value) : Prop where h : ∀ w, Upd w0 L0 w L → In w (some q) [v]
theorem O.ldC {P : Program} {d n : Nat} {w0 : World} {L0 L : Heap} {all : List Oper} {E : Env} {x : Operand} {T ty : TypeId} {pos : String} {aft : Array Edge} {g : Option (Nat × Bool)} {G : Bool} {q : Addr} {v : Value} [TScal P T] (hp : Pre n all E g d G := by exact ⟨rfl, rfl⟩) (hx : Val G E x (.pointer (some q)) := by first | exact vt rfl | exact vs rfl | exact vi rfl and1 | exact vi rfl (fun h => and1 (and1 h)) | exact vi rfl (by simp +contextual)) [c : Cell w0 L0 L q v] :
    QV P n w0 L0 all ⟨some d, .load T x, ty, pos, aft, g⟩ E L d G v :=
  O.val rfl hp (fun hG A w ha hw => by
    rcases c.h w hw with h | ⟨b, p, arr, U', fz, he, hb, hc⟩
    · cases h
    · cases he
      have h0 := hc 0 (by simp)
      have hb' : w.heap[b]? = some (.cells arr.toList.toArray U' fz) := by simpa using hb
      have := run_load_one (P := P) (T := T) (o := p) (v := v) hb' (by simpa using h0)
      simp [execOp, Instr.loadAt, Instr.sureAddr, hx.eval hG ha, Sem.run_bind, this])
theorem W.offc {P : Program} {d n : Nat} {w0 : World} {L0 L : Heap} {all rest : List Oper} {E : Env} {Q : Post} {o : Oper} (v : Value) (hd : o.dst = some d) (hn : Nat.blt d n = true) (hg : gd all E o.guard = some false) (k : WL P n w0 L0 all rest ((d, false, v) :: E) L Q) : WL P n w0 L0 all (o :: rest) E L Q := by
  intro a w ha hw
  have h1 := gd_wanted ha hg
  have hlt : d < n := by simpa using hn
  have := k _ w (ha.put (G := false) (v := v) hlt) hw
  unfold wpList
  rw [if_neg (by rw [h1]; decide), hd]
  exact this
theorem shr_zero {x k : Int} (hk : k = 1 ∨ k = 2 ∨ k = 4) (h0 : 0 ≤ x) : decide (x / 2 ^ (8 * k).toNat = 0) = decide (x < 256 ^ k.toNat) := by
  rcases hk with rfl | rfl | rfl
  · have e1 : (2 : Int) ^ ((8 : Int) * 1).toNat = 256 := by decide
    have e2 : (256 : Int) ^ (1 : Int).toNat = 256 := by decide
    rw [e1, e2]; exact decide_eq_decide.2 (by omega)
  · have e1 : (2 : Int) ^ ((8 : Int) * 2).toNat = 65536 := by decide
    have e2 : (256 : Int) ^ (2 : Int).toNat = 65536 := by decide
    rw [e1, e2]; exact decide_eq_decide.2 (by omega)
  · have e1 : (2 : Int) ^ ((8 : Int) * 4).toNat = 4294967296 := by decide
    have e2 : (256 : Int) ^ (4 : Int).toNat = 4294967296 := by decide
    rw [e1, e2]; exact decide_eq_decide.2 (by omega)
set_option maxRecDepth 100000 in
theorem be_Fits (x k : Int) (w : World) (hk : k = 1 ∨ k = 2 ∨ k = 4) : Fn Try.prog 121 [.int .i64 x, .int .i64 k] w [] fun v L' => v = .bool (fits x k) ∧ L' = [] := by
  refine Fn.enter Try.func121 rfl rfl rfl rfl (Holds.nil w) ?_
  refine CW.seq ?_
  refine CW.region ?_
  refine W.p O.as ?_
  refine WL.nil (Q.tn ?_)
  refine CW.seq ?_
  refine CW.region ?_
  refine W.p O.mv ?_
  refine W.p O.geq ?_
  refine W.p O.mv ?_
  refine W.p O.mv ?_
  refine W.p O.mv ?_
  first | refine W.p O.mulN ?_ | refine W.p O.mul ?_
  refine W.p O.shr ?_
  refine W.p O.eqI ?_
  refine W.p O.pkB ?_
  refine W.p O.as ?_
  refine WL.nil (Q.tn ?_)
  refine CW.ret ?_
  refine ⟨_, [], (RVs.tmp rfl RVs.nil), List.nil_sublist _, ?_⟩
  refine ⟨congrArg Value.bool ?_, rfl⟩
  by_cases h : 0 ≤ x
  · rw [shr_zero hk h, fits, decide_eq_true h]; rfl
  · rw [fits, decide_eq_false h]; rfl
set_option maxRecDepth 100000 in
theorem pk_odd (q : Addr) (x k : Int) (w : World) (h : In w (some q) [.int .i64 x]) (hk : k = 1 ∨ k = 2 ∨ k = 4) : Fn Try.prog 120 [.agg #[.pointer (some q), .int .i64 k]] w [] fun v L' => v = .bool (!fits x k) ∧ L' = [] := by
  have cell : ∀ {L : Heap}, Cell w [] L q (.int .i64 x) := fun {L} => ⟨fun w' hw => (h.lies.step hw (List.nil_sublist _)).in⟩
  refine Fn.enter Try.func120 rfl rfl rfl rfl (Holds.nil w) ?_
  refine CW.seq ?_
  refine CW.region ?_
  refine W.bx rfl (vt rfl) rfl fun b1 => ?_
  refine W.p O.as ?_
  refine WL.nil (Q.tn ?_)
  refine CW.seq ?_
  refine CW.draw 9 rfl (by kernel_rfl) ?_
  first | refine WQ.p O.fb ?_ | refine WQ.p O.fa ?_
  first | refine WQ.p O.ld ?_ | refine WQ.p O.ldC ?_
  refine WQ.p O.nc ?_
  first | refine WQ.p O.ld ?_ | refine WQ.p O.ldC ?_
  first | refine WQ.p O.fb ?_ | refine WQ.p O.fa ?_
  first | refine WQ.p O.ld ?_ | refine WQ.p O.ldC ?_
  refine WQ.q (O.call ⟨rfl, rfl⟩ (AV.cons (vt rfl) (AV.cons (vt rfl) (AV.nil))) (fun _ w hw => be_Fits _ _ w hk)) ?_
  refine WQ.p O.nt ?_
  refine WQ.p O.as ?_
  refine WQ.nil ?_
  refine WL.nil (Q.tn ?_)
  refine CW.ret ?_
  refine ⟨_, [], (RVs.tmp rfl RVs.nil), List.nil_sublist _, ?_⟩
  exact ⟨rfl, rfl⟩
set_option maxRecDepth 100000 in
theorem pk_fields (b l : Nat) (w : World) : Fn Try.prog 113 [.pointer (some ⟨b, 0, none⟩), .pointer (some ⟨l, 0, none⟩)] w [] (Fresh encF 168 2 (fieldsL b l)) := by
  refine Fn.enter Try.func113 rfl rfl rfl rfl (Holds.nil w) ?_
  refine CW.seq ?_
  refine CW.region ?_
  refine W.p O.as ?_
  refine WL.nil (Q.tn ?_)
  refine CW.seq ?_
  refine CW.draw 42 rfl (by kernel_rfl) ?_
  refine WQ.p O.mv ?_
  refine WQ.p O.nc ?_
  first | refine WQ.p O.fb ?_ | refine WQ.p O.fa ?_
  refine WQ.p (O.bd (hv := PV.cons (vt rfl) (PV.cons (vt rfl) (PV.nil)))) ?_
  refine WQ.p O.mv ?_
  refine WQ.p O.nc ?_
  first | refine WQ.p O.fb ?_ | refine WQ.p O.fa ?_
  refine WQ.p (O.bd (hv := PV.cons (vt rfl) (PV.cons (vt rfl) (PV.nil)))) ?_
  refine WQ.p O.mv ?_
  refine WQ.p (O.bd (hv := PV.cons (vt rfl) (PV.cons (vt rfl) (PV.nil)))) ?_
  refine WQ.p O.mv ?_
  refine WQ.p O.nc ?_
  first | refine WQ.p O.fb ?_ | refine WQ.p O.fa ?_
  refine WQ.p (O.bd (hv := PV.cons (vt rfl) (PV.cons (vt rfl) (PV.nil)))) ?_
  refine WQ.p O.mv ?_
  refine WQ.p O.nc ?_
  first | refine WQ.p O.fb ?_ | refine WQ.p O.fa ?_
  refine WQ.p (O.bd (hv := PV.cons (vt rfl) (PV.cons (vt rfl) (PV.nil)))) ?_
  refine WQ.p O.mv ?_
  refine WQ.p O.nc ?_
  first | refine WQ.p O.fb ?_ | refine WQ.p O.fa ?_
  refine WQ.p (O.bd (hv := PV.cons (vt rfl) (PV.cons (vt rfl) (PV.nil)))) ?_
  refine WQ.p O.mv ?_
  refine WQ.p O.nc ?_
  first | refine WQ.p O.fb ?_ | refine WQ.p O.fa ?_
  refine WQ.p (O.bd (hv := PV.cons (vt rfl) (PV.cons (vt rfl) (PV.nil)))) ?_
  refine WQ.p O.mv ?_
  refine WQ.p O.nc ?_
  first | refine WQ.p O.fb ?_ | refine WQ.p O.fa ?_
  refine WQ.p (O.bd (hv := PV.cons (vt rfl) (PV.cons (vt rfl) (PV.nil)))) ?_
  refine WQ.p O.mv ?_
  refine WQ.p O.nc ?_
  first | refine WQ.p O.fb ?_ | refine WQ.p O.fa ?_
  refine WQ.p (O.bd (hv := PV.cons (vt rfl) (PV.cons (vt rfl) (PV.nil)))) ?_
  refine WQ.p O.mv ?_
  refine WQ.p O.nc ?_
  first | refine WQ.p O.fb ?_ | refine WQ.p O.fa ?_
  refine WQ.p (O.bd (hv := PV.cons (vt rfl) (PV.cons (vt rfl) (PV.nil)))) ?_
  refine WQ.p O.mv ?_
  refine WQ.p O.nc ?_
  first | refine WQ.p O.fb ?_ | refine WQ.p O.fa ?_
  refine WQ.p (O.bd (hv := PV.cons (vt rfl) (PV.cons (vt rfl) (PV.nil)))) ?_
  refine WQ.nil ?_
  refine W.bs encF (fieldsL b l) rfl (PV.cons (vt rfl) (PV.cons (vt rfl) (PV.cons (vt rfl) (PV.cons (vt rfl) (PV.cons (vt rfl) (PV.cons (vt rfl) (PV.cons (vt rfl) (PV.cons (vt rfl) (PV.cons (vt rfl) (PV.cons (vt rfl) (PV.cons (vt rfl) (PV.nil)))))))))))) rfl rfl rfl (by decide) rfl fun b1 => ?_
  refine W.p O.as ?_
  refine WL.nil (Q.tn ?_)
  refine CW.ret ?_
  refine ⟨_, rowL (some b1) 168 (flat encF (fieldsL b l) []), (RVs.tmp rfl RVs.nil), (by repeat (first | exact List.Sublist.refl _ | exact hSub _ | exact List.sublist_append_left _ _ | exact List.nil_sublist _ | refine List.Sublist.append (List.Sublist.refl _) ?_ | apply List.Sublist.cons_cons | apply List.Sublist.cons | exact List.sublist_append_left _ _ | refine List.Sublist.trans ?_ (List.sublist_append_right _ _))), ?_⟩
  exact ⟨some b1, 11, [], rfl, ⟨by simp, by simp, by simp, by decide⟩, rfl⟩
theorem any_up {xs : List (Addr × Int)} {vs : List Int} {i : Int} (h0 : 0 ≤ i) : ((List.range (i + 1).toNat).any fun j => !fits (vs.getD j 0) (xs.getD j dF).2) = (((List.range i.toNat).any fun j => !fits (vs.getD j 0) (xs.getD j dF).2) || !fits (vs.getD i.toNat 0) (xs.getD i.toNat dF).2) := by
  rw [show (i + 1).toNat = i.toNat + 1 by omega, List.range_succ, List.any_append]; simp
set_option maxRecDepth 100000 in
theorem ix_Field (xs : List (Addr × Int)) (vs : List Int) (a : Option Addr) (c : Nat) (w : World) (h : In w a (xs.flatMap encF)) (hn : xs.length ≤ 1000) (hv : ∀ i : Int, 0 ≤ i → i < xs.length → In w (some (xs.getD i.toNat dF).1) [.int .i64 (vs.getD i.toNat 0)]) (hk : ∀ p ∈ xs, p.2 = 1 ∨ p.2 = 2 ∨ p.2 = 4) :
    Fn Try.prog 163 [.slice a xs.length c, (.func (.func 120) #[] #[])] w [] fun v L' => ∃ k : Int, v = .int .i64 k ∧ L' = [] ∧ decide (0 ≤ k) = anyOdd xs vs := by
  have row := Row.ofE h
  refine Fn.enter Try.func163 rfl rfl rfl rfl (Holds.nil w) ?_
  refine CW.seq ?_
  refine CW.region ?_
  refine W.p O.as ?_
  refine WL.nil (Q.tn ?_)
  refine CW.seq ?_
  refine CW.seq ?_
  refine CW.region ?_
  refine W.p O.mv ?_
  refine W.p O.lenL ?_
  refine W.p O.mv ?_
  refine WL.nil (Q.tn ?_)
  refine CW.block ?_
  refine CW.loop (X := Int) (fun i => [(0, true, .slice a xs.length c), (1, true, (.func (.func 120) #[] #[])), (7, true, .int .i64 xs.length), (8, true, .int .i64 i)]) (fun i => []) (fun i => 0 ≤ i ∧ i ≤ xs.length ∧ ((List.range i.toNat).any fun j => !fits (vs.getD j 0) (xs.getD j dF).2) = false) (fun i => (xs.length - i).toNat) (0) ?_ (by repeat (first | exact trivial | refine ⟨rfl, ?_⟩ | refine ⟨by (simp only [List.length_set]; rfl), ?_⟩)) (by repeat (first | exact List.Sublist.refl _ | exact List.sublist_append_left _ _ | exact List.nil_sublist _ | refine List.Sublist.append (List.Sublist.refl _) ?_ | apply List.Sublist.cons_cons | apply List.Sublist.cons | refine List.Sublist.trans ?_ (List.sublist_append_right _ _))) ?_
  · exact ⟨by omega, by omega, rfl⟩
  rintro i hI
  try dsimp only at hI ⊢
  obtain ⟨h0, h1, hr⟩ := hI
  refine CW.seq ?_
  refine CW.region ?_
  refine W.p O.lss ?_
  refine WL.nil (Q.tn ?_)
  refine CW.seq ?_
  refine CW.cond (vt rfl) (fun hc1 => ?_) (fun hc1 => ?_)
  · try simp only [Bool.cond_true_left, Bool.cond_false_right, Bool.or_eq_true, Bool.or_eq_false_iff, Bool.and_eq_true, Bool.and_eq_false_iff, decide_eq_true_eq, decide_eq_false_iff_not, Bool.not_eq_true', Bool.not_eq_false'] at hc1
    refine CW.skip (Q.tn ?_)
    refine CW.seq ?_
    refine CW.block ?_
    refine CW.seq ?_
    refine CW.region ?_
    refine W.p O.mv ?_
    refine W.p O.as ?_
    refine WL.nil (Q.tn ?_)
    refine CW.seq ?_
    refine CW.region ?_
    refine W.p O.mv ?_
    refine W.p O.mv ?_
    refine W.p O.mv ?_
    refine W.p O.ixA ?_
    refine W.p O.ldsE ?_
    refine W.callN (first := []) (cap := []) rfl (vt rfl) (AV.cons (vt rfl) (AV.nil)) (fun w hu => pk_odd (xs.getD i.toNat dF).1 (vs.getD i.toNat 0) (xs.getD i.toNat dF).2 w ((hv i h0 hc1).lies.step hu (List.nil_sublist _)).in (hk _ (mem_at3 dF h0 hc1))) ?_; rintro _ _ ⟨rfl, rfl⟩
    refine WL.nil (Q.tn ?_)
    refine CW.cond (vt rfl) (fun hc2 => ?_) (fun hc2 => ?_)
    · try simp only [Bool.cond_true_left, Bool.cond_false_right, Bool.or_eq_true, Bool.or_eq_false_iff, Bool.and_eq_true, Bool.and_eq_false_iff, decide_eq_true_eq, decide_eq_false_iff_not, Bool.not_eq_true', Bool.not_eq_false'] at hc2
      refine CW.seq ?_
      refine CW.region ?_
      refine W.p O.mv ?_
      refine W.p O.as ?_
      refine WL.nil (Q.tn ?_)
      refine CW.ret (Q.br (Q.tr (Q.tr (Q.br (Q.tr ?_)))))
      refine ⟨_, [], (RVs.tmp rfl RVs.nil), List.nil_sublist _, ?_⟩
      refine ⟨i, rfl, rfl, ?_⟩
      rw [decide_eq_true h0, eq_comm, anyOdd, List.any_eq_true]
      exact ⟨i.toNat, by simp; omega, by rw [hc2]; rfl⟩
    try simp only [Bool.cond_true_left, Bool.cond_false_right, Bool.or_eq_true, Bool.or_eq_false_iff, Bool.and_eq_true, Bool.and_eq_false_iff, decide_eq_true_eq, decide_eq_false_iff_not, Bool.not_eq_true', Bool.not_eq_false'] at hc2
    refine CW.skip (Q.bn (Q.tn ?_))
    refine CW.region ?_
    first | refine W.p O.addN ?_ | refine W.p O.add ?_
    refine W.p O.mv ?_
    refine WL.nil (Q.tn ?_)
    refine ⟨(_), ?_, ?_, (by repeat (first | exact trivial | refine ⟨rfl, ?_⟩ | refine ⟨by (simp only [List.length_set]; rfl), ?_⟩)), (by repeat (first | exact List.Sublist.refl _ | exact List.sublist_append_left _ _ | exact List.nil_sublist _ | refine List.Sublist.append (List.Sublist.refl _) ?_ | apply List.Sublist.cons_cons | apply List.Sublist.cons | refine List.Sublist.trans ?_ (List.sublist_append_right _ _)))⟩
    · try dsimp only
      exact ⟨by omega, by omega, by rw [any_up h0, hr, hc2]; rfl⟩
    · try dsimp only
      omega
  try simp only [Bool.cond_true_left, Bool.cond_false_right, Bool.or_eq_true, Bool.or_eq_false_iff, Bool.and_eq_true, Bool.and_eq_false_iff, decide_eq_true_eq, decide_eq_false_iff_not, Bool.not_eq_true', Bool.not_eq_false'] at hc1
  refine CW.exit (Q.te (Q.te (Q.bx (Q.tn ?_))))
  refine CW.seq ?_
  refine CW.region ?_
  refine W.p O.as ?_
  refine WL.nil (Q.tn ?_)
  refine CW.ret ?_
  refine ⟨_, [], (RVs.tmp rfl RVs.nil), List.nil_sublist _, ?_⟩
  refine ⟨-1, rfl, rfl, ?_⟩
  rw [anyOdd, show xs.length = i.toNat by omega, hr]; rfl
set_option maxRecDepth 100000 in
theorem cf_Field (xs : List (Addr × Int)) (vs : List Int) (a : Option Addr) (c : Nat) (w : World) (h : In w a (xs.flatMap encF)) (hn : xs.length ≤ 1000) (hv : ∀ i : Int, 0 ≤ i → i < xs.length → In w (some (xs.getD i.toNat dF).1) [.int .i64 (vs.getD i.toNat 0)]) (hk : ∀ p ∈ xs, p.2 = 1 ∨ p.2 = 2 ∨ p.2 = 4) :
    Fn Try.prog 122 [.slice a xs.length c, (.func (.func 120) #[] #[])] w [] fun v L' => v = .bool (anyOdd xs vs) ∧ L' = [] := by
  have row := Row.ofE h
  refine Fn.enter Try.func122 rfl rfl rfl rfl (Holds.nil w) ?_
  refine CW.seq ?_
  refine CW.region ?_
  refine W.p O.as ?_
  refine WL.nil (Q.tn ?_)
  refine CW.seq ?_
  refine CW.region ?_
  refine W.p O.mv ?_
  refine W.p O.mv ?_
  refine W.callN (first := []) (cap := []) rfl (vt rfl) (AV.cons (vt rfl) (AV.cons (vt rfl) (AV.nil))) (fun w hu => ix_Field xs vs _ _ w (row.h _ w hu) hn (fun i h0 h1 => ((hv i h0 h1).lies.step hu (List.nil_sublist _)).in) hk) ?_; rintro _ _ ⟨k, rfl, rfl, hk2⟩
  refine W.p O.geq ?_
  refine W.p O.as ?_
  refine WL.nil (Q.tn ?_)
  refine CW.ret ?_
  refine ⟨_, [], (RVs.tmp rfl RVs.nil), List.nil_sublist _, ?_⟩
  rw [← hk2]; exact ⟨rfl, rfl⟩
/-- a packet's numbers in the heap -/
theorem pk_cells {w0 w : World} {L0 L : Heap} {b1 b2 : Nat} {p : Pkt} {a : Option Addr} {c : Nat} {long : Int} (hw : Upd w0 L0 w L) [h1 : Blk L b1 (.cells (encPk p a c).toArray 72 (0, 0))] [h2 : Blk L b2 (.cells [.int .i64 long].toArray 3 (0, 0))] :
    ∀ i : Int, 0 ≤ i → i < (fieldsL b1 b2).length → In w (some ((fieldsL b1 b2).getD i.toNat dF).1) [.int .i64 ((FV p long).getD i.toNat 0)] := by
  intro i h0 hi
  have hi : i < 11 := hi
  rcases (by omega : i = 0 ∨ i = 1 ∨ i = 2 ∨ i = 3 ∨ i = 4 ∨ i = 5 ∨ i = 6 ∨ i = 7 ∨ i = 8 ∨ i = 9 ∨ i = 10) with rfl | rfl | rfl | rfl | rfl | rfl | rfl | rfl | rfl | rfl | rfl
  case inr.inr.inl => exact .inr ⟨b2, 0, _, _, _, rfl, hw.has _ h2.h, fun k hk => by simp at hk; subst hk; rfl⟩
  all_goals exact .inr ⟨b1, _, _, _, _, rfl, hw.has _ h1.h, fun k hk => by simp at hk; subst hk; rfl⟩
theorem fields_k (b l : Nat) : ∀ p ∈ fieldsL b l, p.2 = 1 ∨ p.2 = 2 ∨ p.2 = 4 := by simp
def pkMay (p : Pkt) : Bool := decide (p.chaddr.length ≤ 16) && optsMay p.opts && !anyOdd (fieldsL 0 1) (FV p p.chaddr.length)
set_option maxRecDepth 100000 in
theorem pk_May_t (p : Pkt) (a : Option Addr) (c : Nat) (w : World) (h : In w a (p.opts.flatMap encO)) (hn : p.opts.length ≤ 140737488355328) (h16 : p.chaddr.length ≤ 16) (hm : optsMay p.opts = true) : Fn Try.prog 62 [vPk p a c] w [] fun v L' => v = .bool (pkMay p) ∧ L' = [] := by
  have row := Row.ofE h
  refine Fn.enter Try.func62 rfl rfl rfl rfl (Holds.nil w) ?_
  refine CW.seq ?_
  refine CW.region ?_
  refine W.bx rfl (vt rfl) rfl fun b1 => ?_
  refine W.p O.as ?_
  refine WL.nil (Q.tn ?_)
  refine CW.seq ?_
  refine CW.region ?_
  first | refine W.p O.fb ?_ | refine W.p O.fa ?_
  refine W.p O.ld ?_
  refine W.p O.len ?_
  refine W.al rfl rfl fun b2 => ?_
  first | refine W.st (vt rfl) (vt rfl) rfl ?_ | refine W.st (u := .int _ _) (vt rfl) (vt rfl) rfl ?_
  refine WL.nil (Q.tn ?_)
  refine CW.seq ?_
  refine CW.region ?_
  refine W.p O.as ?_
  refine WL.nil (Q.tn ?_)
  refine CW.seq ?_
  refine CW.region ?_
  refine W.p O.ld ?_
  refine W.p O.leq ?_
  first | (refine WL.kn (v := true) (by rfl) ?_ ?_; focus (exact decide_eq_true (by omega))) | (refine WL.kn (v := false) (by rfl) ?_ ?_; focus (exact decide_eq_true (by omega)))
  refine W.p O.mv ?_
  first | refine W.p O.fb ?_ | refine W.p O.fa ?_
  refine W.p O.ld ?_
  refine W.q (O.call ⟨rfl, rfl⟩ (AV.cons (vs rfl) (AV.nil)) (fun _ w hw => opts_May _ _ _ w (row.h _ w hw) hn)) ?_
  first | (refine WL.kn (v := true) (by rfl) ?_ ?_; focus (exact hm)) | (refine WL.kn (v := false) (by rfl) ?_ ?_; focus (exact hm))
  refine W.p O.pkB ?_
  refine W.p O.mv ?_
  refine W.ug rfl ?_
  refine W.callN (first := []) (cap := []) rfl (vt rfl) (AV.cons (vt rfl) (AV.cons (vt rfl) (AV.nil))) (fun w hu => pk_fields _ _ w) ?_; rintro _ _ ⟨o11, c11, sp11, rfl, ok11, rfl⟩; have nk11 := ok11.nk
  refine W.p O.mv ?_
  refine W.q (O.call ⟨rfl, rfl⟩ (AV.cons (vt rfl) (AV.cons (vs rfl) (AV.nil))) (fun _ w hw => cf_Field (fieldsL b1 b2) (FV p p.chaddr.length) _ _ w (RowL.h _ hw) (by simp) (pk_cells hw) (fields_k b1 b2))) ?_
  refine W.p O.nt ?_
  refine W.p O.pkB ?_
  refine W.p O.as ?_
  refine WL.nil (Q.tn ?_)
  refine CW.ret ?_
  refine ⟨_, [], (RVs.tmp rfl RVs.nil), List.nil_sublist _, ?_⟩
  refine ⟨congrArg Value.bool ?_, rfl⟩
  rw [pkMay, decide_eq_true h16, hm]; rfl
set_option maxRecDepth 100000 in
theorem pk_May_f (p : Pkt) (a : Option Addr) (c : Nat) (w : World) (h : In w a (p.opts.flatMap encO)) (hn : p.opts.length ≤ 140737488355328) (h16 : ¬ p.chaddr.length ≤ 16) : Fn Try.prog 62 [vPk p a c] w [] fun v L' => v = .bool (pkMay p) ∧ L' = [] := by
  have row := Row.ofE h
  refine Fn.enter Try.func62 rfl rfl rfl rfl (Holds.nil w) ?_
  refine CW.seq ?_
  refine CW.region ?_
  refine W.bx rfl (vt rfl) rfl fun b1 => ?_
  refine W.p O.as ?_
  refine WL.nil (Q.tn ?_)
  refine CW.seq ?_
  refine CW.region ?_
  first | refine W.p O.fb ?_ | refine W.p O.fa ?_
  refine W.p O.ld ?_
  refine W.p O.len ?_
  refine W.al rfl rfl fun b2 => ?_
  first | refine W.st (vt rfl) (vt rfl) rfl ?_ | refine W.st (u := .int _ _) (vt rfl) (vt rfl) rfl ?_
  refine WL.nil (Q.tn ?_)
  refine CW.seq ?_
  refine CW.region ?_
  refine W.p O.as ?_
  refine WL.nil (Q.tn ?_)
  refine CW.seq ?_
  refine CW.region ?_
  refine W.p O.ld ?_
  refine W.p O.leq ?_
  first | (refine WL.kn (v := true) (by rfl) ?_ ?_; focus (exact decide_eq_false (by omega))) | (refine WL.kn (v := false) (by rfl) ?_ ?_; focus (exact decide_eq_false (by omega)))
  refine W.p O.mv ?_
  first | refine W.p O.fb ?_ | refine W.p O.fa ?_
  refine W.p O.ld ?_
  refine W.q (O.call ⟨rfl, rfl⟩ (AV.cons (vs rfl) (AV.nil)) (fun _ w hw => opts_May _ _ _ w (row.h _ w hw) hn)) ?_
  refine W.p O.pkB ?_
  refine W.p O.mv ?_
  refine (W.offc (.slice none 0 0) rfl rfl rfl ?_)
  refine W.p O.mv ?_
  refine (W.offc (.bool false) rfl rfl rfl ?_)
  refine W.p O.nt ?_
  refine W.p O.pkB ?_
  refine W.p O.as ?_
  refine WL.nil (Q.tn ?_)
  refine CW.ret ?_
  refine ⟨_, [], (RVs.tmp rfl RVs.nil), List.nil_sublist _, ?_⟩
  refine ⟨congrArg Value.bool ?_, rfl⟩
  rw [pkMay, decide_eq_false h16]; rfl
set_option maxRecDepth 100000 in
theorem pk_May_g (p : Pkt) (a : Option Addr) (c : Nat) (w : World) (h : In w a (p.opts.flatMap encO)) (hn : p.opts.length ≤ 140737488355328) (h16 : p.chaddr.length ≤ 16) (hm : optsMay p.opts = false) : Fn Try.prog 62 [vPk p a c] w [] fun v L' => v = .bool (pkMay p) ∧ L' = [] := by
  have row := Row.ofE h
  refine Fn.enter Try.func62 rfl rfl rfl rfl (Holds.nil w) ?_
  refine CW.seq ?_
  refine CW.region ?_
  refine W.bx rfl (vt rfl) rfl fun b1 => ?_
  refine W.p O.as ?_
  refine WL.nil (Q.tn ?_)
  refine CW.seq ?_
  refine CW.region ?_
  first | refine W.p O.fb ?_ | refine W.p O.fa ?_
  refine W.p O.ld ?_
  refine W.p O.len ?_
  refine W.al rfl rfl fun b2 => ?_
  first | refine W.st (vt rfl) (vt rfl) rfl ?_ | refine W.st (u := .int _ _) (vt rfl) (vt rfl) rfl ?_
  refine WL.nil (Q.tn ?_)
  refine CW.seq ?_
  refine CW.region ?_
  refine W.p O.as ?_
  refine WL.nil (Q.tn ?_)
  refine CW.seq ?_
  refine CW.region ?_
  refine W.p O.ld ?_
  refine W.p O.leq ?_
  first | (refine WL.kn (v := true) (by rfl) ?_ ?_; focus (exact decide_eq_true (by omega))) | (refine WL.kn (v := false) (by rfl) ?_ ?_; focus (exact decide_eq_true (by omega)))
  refine W.p O.mv ?_
  first | refine W.p O.fb ?_ | refine W.p O.fa ?_
  refine W.p O.ld ?_
  refine W.q (O.call ⟨rfl, rfl⟩ (AV.cons (vs rfl) (AV.nil)) (fun _ w hw => opts_May _ _ _ w (row.h _ w hw) hn)) ?_
  first | (refine WL.kn (v := true) (by rfl) ?_ ?_; focus (exact hm)) | (refine WL.kn (v := false) (by rfl) ?_ ?_; focus (exact hm))
  refine W.p O.pkB ?_
  refine W.p O.mv ?_
  refine (W.offc (.slice none 0 0) rfl rfl rfl ?_)
  refine W.p O.mv ?_
  refine (W.offc (.bool false) rfl rfl rfl ?_)
  refine W.p O.nt ?_
  refine W.p O.pkB ?_
  refine W.p O.as ?_
  refine WL.nil (Q.tn ?_)
  refine CW.ret ?_
  refine ⟨_, [], (RVs.tmp rfl RVs.nil), List.nil_sublist _, ?_⟩
  refine ⟨congrArg Value.bool ?_, rfl⟩
  rw [pkMay, hm]; simp
theorem pk_May (p : Pkt) (a : Option Addr) (c : Nat) (w : World) (h : In w a (p.opts.flatMap encO)) (hn : p.opts.length ≤ 140737488355328) : Fn Try.prog 62 [vPk p a c] w [] fun v L' => v = .bool (pkMay p) ∧ L' = [] := by
  by_cases h16 : p.chaddr.length ≤ 16
  · cases hm : optsMay p.opts with
    | true => exact pk_May_t p a c w h hn h16 hm
    | false => exact pk_May_g p a c w h hn h16 hm
  · exact pk_May_f p a c w h hn h16
theorem anyOdd_at (b l : Nat) (vs : List Int) : anyOdd (fieldsL b l) vs = anyOdd (fieldsL 0 1) vs := rfl
end Go.Proofs.Ytkjcmdgideddnaa

set_option linter.unusedVariables false
set_option linter.unusedSimpArgs false
namespace Go.Proofs.Ytkjcmdgideddnaa
open Go Go.RowKit
theorem be_BytesI (v k : Int) (w : World) (hk : 0 ≤ k ∧ k ≤ 8) : Fn Try.prog 92 [.int .i64 v, .int .i64 k] w [] fun r L' => r = .string (S (beb v k.toNat)) ∧ L' = [] := by
  have := be_Bytes v k.toNat w (by omega)
  rwa [Int.toNat_of_nonneg hk.1] at this
theorem st_RepI (c : UInt8) (k : Int) (w : World) (hk : 0 ≤ k ∧ k ≤ 1000000000) : Fn Try.prog 114 [.string (S [c]), .int .i64 k] w [] fun v L' => v = .string (S (List.replicate k.toNat c)) ∧ L' = [] := by
  have := st_Rep c k.toNat w (by omega)
  rwa [Int.toNat_of_nonneg hk.1] at this
/-- the head of a packet's bytes, up to a number -/
def hdP (p : Pkt) (long : Int) (i : Nat) : List UInt8 := (List.range i).flatMap fun j => beb ((FV p long).getD j 0) (PFK.getD j 0).toNat
theorem hdP_up (p : Pkt) (long : Int) {i : Int} (h0 : 0 ≤ i) : hdP p long (i + 1).toNat = hdP p long i.toNat ++ beb ((FV p long).getD i.toNat 0) (PFK.getD i.toNat 0).toNat := by
  rw [hdP, show (i + 1).toNat = i.toNat + 1 by omega, List.range_succ, List.flatMap_append]; simp [hdP]
theorem fields_at (b l : Nat) {i : Int} (h0 : 0 ≤ i) (h1 : i < 11) : ((fieldsL b l).getD i.toNat dF).2 = PFK.getD i.toNat 0 ∧ 0 ≤ PFK.getD i.toNat 0 ∧ PFK.getD i.toNat 0 ≤ 8 := by
  rcases (by omega : i = 0 ∨ i = 1 ∨ i = 2 ∨ i = 3 ∨ i = 4 ∨ i = 5 ∨ i = 6 ∨ i = 7 ∨ i = 8 ∨ i = 9 ∨ i = 10) with rfl | rfl | rfl | rfl | rfl | rfl | rfl | rfl | rfl | rfl | rfl <;> exact ⟨rfl, by decide, by decide⟩
def cookieB : List UInt8 := beb 1669485411 4
def pkBytes (p : Pkt) : List UInt8 := hdP p p.chaddr.length 11 ++ p.chaddr ++ List.replicate (208 - p.chaddr.length) 0 ++ (cookieB ++ (putR p.opts).1)
def pkPut (p : Pkt) : List UInt8 × Int := if (putR p.opts).2 ≠ 0 ∨ pkMay p = false then ([], 700) else (pkBytes p, 0)
theorem hdP_len (p : Pkt) (long : Int) : (hdP p long 11).length = 28 := by
  simp [hdP, List.range_succ]
theorem putR_len1 (os : List Opt) : (putR os).1.length ≤ 1200 := by
  unfold putR; split
  · split
    · assumption
    · simp
  · simp
set_option maxRecDepth 100000 in
theorem pk_Put (p : Pkt) (a : Option Addr) (c : Nat) (w : World) (h : In w a (p.opts.flatMap encO)) (hn : p.opts.length ≤ 140737488355328) : Fn Try.prog 57 [vPk p a c] w [] fun v L' => v = .tuple #[.string (S (pkPut p).1), .int .i64 (pkPut p).2] ∧ L' = [] := by
  have row := Row.ofE h
  have hpl := putR_len1 p.opts
  have hcl : (beb 1669485411 4).length = 4 := rfl
  refine Fn.enter Try.func57 rfl rfl rfl rfl (Holds.nil w) ?_
  refine CW.seq ?_
  refine CW.region ?_
  refine W.bx rfl (vt rfl) rfl fun b1 => ?_
  refine W.p O.as ?_
  refine W.p O.as ?_
  refine WL.nil (Q.tn ?_)
  refine CW.seq ?_
  refine CW.region ?_
  first | refine W.p O.fb ?_ | refine W.p O.fa ?_
  first | refine W.p O.ld ?_ | refine W.p O.ldC ?_
  refine W.q (O.call ⟨rfl, rfl⟩ (AV.cons (vt rfl) (AV.nil)) (fun _ w hw => opts_Put p.opts a c w (row.h _ w hw) hn)) ?_
  refine W.p O.mv ?_
  first | refine W.p O.extL ?_ | refine W.p O.ext ?_
  first | refine W.p O.extL ?_ | refine W.p O.ext ?_
  refine W.p O.as ?_
  refine W.p O.as ?_
  refine WL.nil (Q.tn ?_)
  refine CW.seq ?_
  refine CW.seq ?_
  refine CW.region ?_
  refine W.p O.mv ?_
  refine W.p O.neI ?_
  refine W.p O.mv ?_
  refine W.p O.lds ?_
  refine W.q (O.call ⟨rfl, rfl⟩ (AV.cons (vs rfl) (AV.nil)) (fun _ w hw => pk_May p a c w (row.h _ w hw) hn)) ?_
  refine W.p O.nt ?_
  refine W.p O.pkB ?_
  refine WL.nil (Q.tn ?_)
  refine CW.cond (vt rfl) (fun hc1 => ?_) (fun hc1 => ?_)
  · try simp only [Bool.cond_true_left, Bool.cond_false_right, Bool.or_eq_true, Bool.or_eq_false_iff, Bool.and_eq_true, Bool.and_eq_false_iff, decide_eq_true_eq, decide_eq_false_iff_not, Bool.not_eq_true', Bool.not_eq_false'] at hc1
    refine CW.seq ?_
    refine CW.region ?_
    refine W.p O.as ?_
    refine W.p O.as ?_
    refine WL.nil (Q.tn ?_)
    refine CW.ret (Q.tr ?_)
    refine ⟨_, [], (RVs.tmp rfl (RVs.tmp rfl RVs.nil)), List.nil_sublist _, ?_⟩
    rw [pkPut, if_pos hc1]; exact ⟨rfl, rfl⟩
  try simp only [Bool.cond_true_left, Bool.cond_false_right, Bool.or_eq_true, Bool.or_eq_false_iff, Bool.and_eq_true, Bool.and_eq_false_iff, decide_eq_true_eq, decide_eq_false_iff_not, Bool.not_eq_true', Bool.not_eq_false'] at hc1
  have hch : p.chaddr.length ≤ 16 := by have h := hc1.2; simp only [pkMay, Bool.and_eq_true, decide_eq_true_eq] at h; exact h.1.1
  refine CW.skip (Q.tn ?_)
  refine CW.seq ?_
  refine CW.region ?_
  refine W.al rfl rfl fun b2 => ?_
  refine WL.nil (Q.tn ?_)
  refine CW.seq ?_
  refine CW.region ?_
  first | refine W.p O.fb ?_ | refine W.p O.fa ?_
  first | refine W.p O.ld ?_ | refine W.p O.ldC ?_
  refine W.p O.len ?_
  refine W.al rfl rfl fun b3 => ?_
  first | refine W.st (vt rfl) (vt rfl) rfl ?_ | refine W.st (u := .int _ _) (vt rfl) (vt rfl) rfl ?_
  refine WL.nil (Q.tn ?_)
  refine CW.seq ?_
  refine CW.seq ?_
  refine CW.region ?_
  refine W.callN (first := []) (cap := []) rfl (vt rfl) (AV.cons (vt rfl) (AV.cons (vt rfl) (AV.nil))) (fun w hu => pk_fields _ _ w) ?_; rintro _ _ ⟨o11, c11, sp11, rfl, ok11, rfl⟩; have nk11 := ok11.nk
  refine W.p O.lenL ?_
  refine W.p O.mv ?_
  refine WL.nil (Q.tn ?_)
  refine CW.block ?_
  refine CW.loop (X := Int × (List UInt8) × Heap) (fun ⟨i, l, Lb⟩ => [(1, true, .pointer (some ⟨b1, 0, none⟩)), (4, true, .string (S (putR p.opts).1)), (6, true, .pointer (some ⟨b2, 0, none⟩)), (26, true, .slice (oa o11) 11 c11), (27, true, .int .i64 11), (28, true, .int .i64 i)]) (fun ⟨i, l, Lb⟩ => rowL o11 168 (flat encF (fieldsL b1 b3) sp11) ++ ((b3, .cells [.int .i64 p.chaddr.length].toArray 3 (0, 0)) :: (Lb ++ [(b1, .cells (encPk p a c).toArray 72 (0, 0))]))) (fun ⟨i, l, Lb⟩ => 0 ≤ i ∧ i ≤ 11 ∧ Bd b2 l Lb ∧ l = hdP p p.chaddr.length i.toNat ∧ l.length ≤ 8 * i) (fun ⟨i, l, Lb⟩ => (11 - i).toNat) (0, [], [BdO b2 none (.slice none 0 0)]) ?_ (by repeat (first | exact trivial | refine ⟨rfl, ?_⟩ | refine ⟨by (simp only [List.length_set]; rfl), ?_⟩)) (by repeat (first | exact List.Sublist.refl _ | exact List.sublist_append_left _ _ | exact List.nil_sublist _ | refine List.Sublist.append (List.Sublist.refl _) ?_ | apply List.Sublist.cons_cons | apply List.Sublist.cons | refine List.Sublist.trans ?_ (List.sublist_append_right _ _))) ?_
  · exact ⟨by omega, by omega, Bd.new b2, rfl, by simp⟩
  rintro ⟨i, l, Lb⟩ hI
  try dsimp only at hI ⊢
  obtain ⟨h0, h1, hB, hl, hll⟩ := hI
  have hf := fun h => fields_at b1 b3 h0 (i := i) h
  refine CW.seq ?_
  refine CW.region ?_
  refine W.p O.lss ?_
  refine WL.nil (Q.tn ?_)
  refine CW.seq ?_
  refine CW.cond (vt rfl) (fun hc2 => ?_) (fun hc2 => ?_)
  · try simp only [Bool.cond_true_left, Bool.cond_false_right, Bool.or_eq_true, Bool.or_eq_false_iff, Bool.and_eq_true, Bool.and_eq_false_iff, decide_eq_true_eq, decide_eq_false_iff_not, Bool.not_eq_true', Bool.not_eq_false'] at hc2
    have hf := hf hc2
    have cell : ∀ {L : Heap} [h1 : Blk L b1 (.cells (encPk p a c).toArray 72 (0, 0))] [h2 : Blk L b3 (.cells [.int .i64 p.chaddr.length].toArray 3 (0, 0))], Cell w [] L ((fieldsL b1 b3).getD i.toNat dF).1 (.int .i64 ((FV p p.chaddr.length).getD i.toNat 0)) := fun {L} _ _ => ⟨fun w' hw => pk_cells hw i h0 hc2⟩
    refine CW.skip (Q.tn ?_)
    refine CW.seq ?_
    refine CW.block ?_
    refine CW.seq ?_
    refine CW.region ?_
    refine W.p O.ixA ?_
    refine W.p O.ldsE ?_
    refine W.al rfl rfl fun b4 => ?_
    refine W.st (vt rfl) (vt rfl) rfl ?_
    refine WL.nil (Q.tn ?_)
    refine CW.draw 7 rfl (by kernel_rfl) ?_
    first | refine WQ.p O.fb ?_ | refine WQ.p O.fa ?_
    first | refine WQ.p O.ld ?_ | refine WQ.p O.ldC ?_
    refine WQ.p O.nc ?_
    first | refine WQ.p O.ld ?_ | refine WQ.p O.ldC ?_
    first | refine WQ.p O.fb ?_ | refine WQ.p O.fa ?_
    first | refine WQ.p O.ld ?_ | refine WQ.p O.ldC ?_
    refine WQ.q (O.call ⟨rfl, rfl⟩ (AV.cons (vt rfl) (AV.cons (vt rfl) (AV.nil))) (fun _ w hw => be_BytesI _ _ w (by rw [hf.1]; exact hf.2))) ?_
    refine WQ.nil ?_
    refine W.callS (first := []) (cap := []) Lb rfl (vt rfl) (AV.cons (vt rfl) (AV.cons (vt rfl) (AV.nil))) (fun w hu hh => bd_str w hB hh (by rw [beb_len, hf.1]; omega)) ?_; rintro _ Lb2 hB2
    refine WL.nil (Q.bn (Q.tn ?_))
    refine CW.region ?_
    first | refine W.p O.addN ?_ | refine W.p O.add ?_
    refine W.p O.mv ?_
    refine WL.nil (Q.tn ?_)
    refine ⟨(i + 1, l ++ beb ((FV p p.chaddr.length).getD i.toNat 0) ((fieldsL b1 b3).getD i.toNat dF).2.toNat, Lb2), ?_, ?_, (by repeat (first | exact trivial | refine ⟨rfl, ?_⟩ | refine ⟨by (simp only [List.length_set]; rfl), ?_⟩)), (by repeat (first | exact List.Sublist.refl _ | exact List.sublist_append_left _ _ | exact List.nil_sublist _ | refine List.Sublist.append (List.Sublist.refl _) ?_ | apply List.Sublist.cons_cons | apply List.Sublist.cons | refine List.Sublist.trans ?_ (List.sublist_append_right _ _)))⟩
    · try dsimp only
      refine ⟨by omega, by omega, hB2, by rw [hl, hdP_up _ _ h0, hf.1], by rw [List.length_append, beb_len, hf.1]; omega⟩
    · try dsimp only
      omega
  try simp only [Bool.cond_true_left, Bool.cond_false_right, Bool.or_eq_true, Bool.or_eq_false_iff, Bool.and_eq_true, Bool.and_eq_false_iff, decide_eq_true_eq, decide_eq_false_iff_not, Bool.not_eq_true', Bool.not_eq_false'] at hc2
  have hl28 : l.length = 28 := by rw [hl, show i.toNat = 11 by omega]; exact hdP_len _ _
  have hla : (l ++ p.chaddr).length = 28 + p.chaddr.length := by rw [List.length_append, hl28]
  have hrp : (List.replicate (236 - ((l ++ p.chaddr).length : Int)).toNat (0 : UInt8)).length = 208 - p.chaddr.length := by rw [List.length_replicate, hla]; omega
  have hlb : (l ++ p.chaddr ++ List.replicate (236 - ((l ++ p.chaddr).length : Int)).toNat (0 : UInt8)).length = 236 := by rw [List.length_append, hrp, hla]; omega
  refine CW.exit (Q.te (Q.te (Q.bx (Q.tn ?_))))
  refine CW.seq ?_
  refine CW.region ?_
  first | refine W.p O.fb ?_ | refine W.p O.fa ?_
  first | refine W.p O.ld ?_ | refine W.p O.ldC ?_
  refine W.callS (first := []) (cap := []) Lb rfl (vt rfl) (AV.cons (vt rfl) (AV.cons (vt rfl) (AV.nil))) (fun w hu hh => bd_str w hB hh (by omega)) ?_; rintro _ Lb3 hB3
  refine WL.nil (Q.tn ?_)
  refine CW.seq ?_
  refine CW.region ?_
  refine W.callS (first := []) (cap := []) Lb3 rfl (vt rfl) (AV.cons (vt rfl) (AV.nil)) (fun w hu hh => bd_len w hB3 hh) ?_; rintro _ Lx ⟨rfl, hLx⟩; rw [hLx]
  first | refine W.p O.subN ?_ | refine W.p O.sub ?_
  refine W.q (O.call ⟨rfl, rfl⟩ (AV.cons (vt rfl) (AV.cons (vt rfl) (AV.nil))) (fun _ w hw => st_RepI 0 _ w (by omega))) ?_
  refine W.callS (first := []) (cap := []) Lb3 rfl (vt rfl) (AV.cons (vt rfl) (AV.cons (vt rfl) (AV.nil))) (fun w hu hh => bd_str w hB3 hh (by omega)) ?_; rintro _ Lb4 hB4
  refine WL.nil (Q.tn ?_)
  refine CW.seq ?_
  refine CW.region ?_
  refine W.q (O.call ⟨rfl, rfl⟩ (AV.cons (vt rfl) (AV.cons (vt rfl) (AV.nil))) (fun _ w hw => be_Bytes _ 4 w (by decide))) ?_
  refine W.p O.mv ?_
  refine W.p O.addS ?_
  refine W.callS (first := []) (cap := []) Lb4 rfl (vt rfl) (AV.cons (vt rfl) (AV.cons (vt rfl) (AV.nil))) (fun w hu hh => bd_str w hB4 hh (by rw [hlb, List.length_append]; omega)) ?_; rintro _ Lb5 hB5
  refine WL.nil (Q.tn ?_)
  refine CW.seq ?_
  refine CW.region ?_
  refine W.callS (first := []) (cap := []) Lb5 rfl (vt rfl) (AV.cons (vt rfl) (AV.nil)) (fun w hu hh => bd_string w hB5 hh) ?_; rintro _ Lx rfl
  refine W.p O.as ?_
  refine W.p O.as ?_
  refine WL.nil (Q.tn ?_)
  refine CW.ret ?_
  refine ⟨_, [], (RVs.tmp rfl (RVs.tmp rfl RVs.nil)), List.nil_sublist _, ?_⟩
  rw [pkPut, if_neg (by rintro (h | h); exact h hc1.1; rw [hc1.2] at h; cases h)]
  refine ⟨?_, rfl⟩
  have hi : i.toNat = 11 := by omega
  have e : (236 - ((l ++ p.chaddr).length : Int)).toNat = 208 - p.chaddr.length := by rw [hla]; omega
  rw [e, hl, hi]; rfl
end Go.Proofs.Ytkjcmdgideddnaa

set_option linter.unusedVariables false
set_option linter.unusedSimpArgs false
namespace Go.Proofs.Ytkjcmdgideddnaa
open Go Go.RowKit
def is52 (o : Opt) : Bool := decide (o.code = 52)
def keep (os : List Opt) : List Opt := os.filter fun o => !is52 o
set_option maxRecDepth 100000 in
theorem pk_drop (o : Opt) (w : World) : Fn Try.prog 162 [.agg (encO o).toArray] w [] fun v L' => v = .bool (is52 o) ∧ L' = [] := by
  refine Fn.enter Try.func162 rfl rfl rfl rfl (Holds.nil w) ?_
  refine CW.seq ?_
  refine CW.region ?_
  refine W.bx rfl (vt rfl) rfl fun b1 => ?_
  refine W.p O.as ?_
  refine WL.nil (Q.tn ?_)
  refine CW.seq ?_
  refine CW.region ?_
  first | refine W.p O.fb ?_ | refine W.p O.fa ?_
  refine W.p O.ld ?_
  refine W.p O.eqI ?_
  refine W.p O.as ?_
  refine WL.nil (Q.tn ?_)
  refine CW.ret ?_
  refine ⟨_, [], (RVs.tmp rfl RVs.nil), List.nil_sublist _, ?_⟩
  exact ⟨rfl, rfl⟩
set_option maxRecDepth 100000 in
theorem ix_Opt (os : List Opt) (a : Option Addr) (c : Nat) (w : World) (h : In w a (os.flatMap encO)) (hn : os.length ≤ 1000000000) :
    Fn Try.prog 183 [.slice a os.length c, (.func (.func 162) #[] #[])] w [] fun v L' => ∃ k : Int, v = .int .i64 k ∧ L' = [] ∧ ((k = -1 ∧ os.any is52 = false) ∨ (0 ≤ k ∧ k < os.length ∧ is52 (os.getD k.toNat dO) = true ∧ (os.take k.toNat).any is52 = false)) := by
  have row := Row.ofE h
  refine Fn.enter Try.func183 rfl rfl rfl rfl (Holds.nil w) ?_
  refine CW.seq ?_
  refine CW.region ?_
  refine W.p O.as ?_
  refine WL.nil (Q.tn ?_)
  refine CW.seq ?_
  refine CW.seq ?_
  refine CW.region ?_
  refine W.p O.mv ?_
  refine W.p O.lenL ?_
  refine W.p O.mv ?_
  refine WL.nil (Q.tn ?_)
  refine CW.block ?_
  refine CW.loop (X := Int) (fun i => [(0, true, .slice a os.length c), (1, true, (.func (.func 162) #[] #[])), (7, true, .int .i64 os.length), (8, true, .int .i64 i)]) (fun i => []) (fun i => 0 ≤ i ∧ i ≤ os.length ∧ (os.take i.toNat).any is52 = false) (fun i => (os.length - i).toNat) (0) ?_ (by repeat (first | exact trivial | refine ⟨rfl, ?_⟩ | refine ⟨by (simp only [List.length_set]; rfl), ?_⟩)) (by repeat (first | exact List.Sublist.refl _ | exact List.sublist_append_left _ _ | exact List.nil_sublist _ | refine List.Sublist.append (List.Sublist.refl _) ?_ | apply List.Sublist.cons_cons | apply List.Sublist.cons | refine List.Sublist.trans ?_ (List.sublist_append_right _ _))) ?_
  · exact ⟨by omega, by omega, rfl⟩
  rintro i hI
  try dsimp only at hI ⊢
  obtain ⟨h0, h1, hr⟩ := hI
  refine CW.seq ?_
  refine CW.region ?_
  refine W.p O.lss ?_
  refine WL.nil (Q.tn ?_)
  refine CW.seq ?_
  refine CW.cond (vt rfl) (fun hc1 => ?_) (fun hc1 => ?_)
  · try simp only [Bool.cond_true_left, Bool.cond_false_right, Bool.or_eq_true, Bool.or_eq_false_iff, Bool.and_eq_true, Bool.and_eq_false_iff, decide_eq_true_eq, decide_eq_false_iff_not, Bool.not_eq_true', Bool.not_eq_false'] at hc1
    refine CW.skip (Q.tn ?_)
    refine CW.seq ?_
    refine CW.block ?_
    refine CW.seq ?_
    refine CW.region ?_
    refine W.p O.mv ?_
    refine W.p O.as ?_
    refine WL.nil (Q.tn ?_)
    refine CW.seq ?_
    refine CW.region ?_
    refine W.p O.mv ?_
    refine W.p O.mv ?_
    refine W.p O.mv ?_
    refine W.p O.ixA ?_
    refine W.p O.ldsE ?_
    refine W.callN (first := []) (cap := []) rfl (vt rfl) (AV.cons (vt rfl) (AV.nil)) (fun w hu => pk_drop (os.getD i.toNat dO) w) ?_; rintro _ _ ⟨rfl, rfl⟩
    refine WL.nil (Q.tn ?_)
    refine CW.cond (vt rfl) (fun hc2 => ?_) (fun hc2 => ?_)
    · try simp only [Bool.cond_true_left, Bool.cond_false_right, Bool.or_eq_true, Bool.or_eq_false_iff, Bool.and_eq_true, Bool.and_eq_false_iff, decide_eq_true_eq, decide_eq_false_iff_not, Bool.not_eq_true', Bool.not_eq_false'] at hc2
      refine CW.seq ?_
      refine CW.region ?_
      refine W.p O.mv ?_
      refine W.p O.as ?_
      refine WL.nil (Q.tn ?_)
      refine CW.ret (Q.br (Q.tr (Q.tr (Q.br (Q.tr ?_)))))
      refine ⟨_, [], (RVs.tmp rfl RVs.nil), List.nil_sublist _, ?_⟩
      exact ⟨i, rfl, rfl, .inr ⟨h0, hc1, hc2, hr⟩⟩
    try simp only [Bool.cond_true_left, Bool.cond_false_right, Bool.or_eq_true, Bool.or_eq_false_iff, Bool.and_eq_true, Bool.and_eq_false_iff, decide_eq_true_eq, decide_eq_false_iff_not, Bool.not_eq_true', Bool.not_eq_false'] at hc2
    refine CW.skip (Q.bn (Q.tn ?_))
    refine CW.region ?_
    first | refine W.p O.addN ?_ | refine W.p O.add ?_
    refine W.p O.mv ?_
    refine WL.nil (Q.tn ?_)
    refine ⟨(_), ?_, ?_, (by repeat (first | exact trivial | refine ⟨rfl, ?_⟩ | refine ⟨by (simp only [List.length_set]; rfl), ?_⟩)), (by repeat (first | exact List.Sublist.refl _ | exact List.sublist_append_left _ _ | exact List.nil_sublist _ | refine List.Sublist.append (List.Sublist.refl _) ?_ | apply List.Sublist.cons_cons | apply List.Sublist.cons | refine List.Sublist.trans ?_ (List.sublist_append_right _ _)))⟩
    · try dsimp only
      exact ⟨by omega, by omega, by rw [take_at' dO h0 hc1, List.any_append, hr]; simpa using hc2⟩
    · try dsimp only
      omega
  try simp only [Bool.cond_true_left, Bool.cond_false_right, Bool.or_eq_true, Bool.or_eq_false_iff, Bool.and_eq_true, Bool.and_eq_false_iff, decide_eq_true_eq, decide_eq_false_iff_not, Bool.not_eq_true', Bool.not_eq_false'] at hc1
  refine CW.exit (Q.te (Q.te (Q.bx (Q.tn ?_))))
  refine CW.seq ?_
  refine CW.region ?_
  refine W.p O.as ?_
  refine WL.nil (Q.tn ?_)
  refine CW.ret ?_
  refine ⟨_, [], (RVs.tmp rfl RVs.nil), List.nil_sublist _, ?_⟩
  refine ⟨-1, rfl, rfl, .inl ⟨rfl, ?_⟩⟩
  rw [List.take_of_length_le (by omega)] at hr; exact hr
theorem keep_none {os : List Opt} (h : os.any is52 = false) : keep os = os := by
  rw [keep, List.filter_eq_self]
  intro o ho
  have := List.any_eq_false.1 h o ho
  simpa using this
theorem keep_app (a b : List Opt) : keep (a ++ b) = keep a ++ keep b := List.filter_append ..
theorem keep_len (os : List Opt) : (keep os).length ≤ os.length := List.length_filter_le _ _
theorem del_keep {os ys : List Opt} {i j : Int} {v : Opt} (h0 : 0 ≤ i) (hij : i < j) (hj : j < os.length) (hl : ys.length = os.length) (ht : ys.take i.toNat = keep (os.take j.toNat)) (hd : ys.drop j.toNat = os.drop j.toNat) (hv : v = os.getD j.toNat dO) (h5 : is52 v = false) :
    (ys.set i.toNat v).take (i + 1).toNat = keep (os.take (j + 1).toNat) ∧ (ys.set i.toNat v).drop (j + 1).toNat = os.drop (j + 1).toNat := by
  constructor
  · rw [take_at' dO (by omega) hj, keep_app, ← ht, take_at' dO h0 (by rw [List.length_set]; omega)]
    congr 1
    · rw [List.take_set_of_le (by omega)]
    · rw [List.getD_eq_getElem?_getD, List.getElem?_set_self (by omega)]
      simp only [keep, List.filter_cons, ← hv, h5]; rfl
  · rw [List.drop_set_of_lt (by omega), show (j + 1).toNat = j.toNat + 1 by omega, ← List.drop_drop, hd, List.drop_drop]
theorem del_skip {os ys : List Opt} {i j : Int} (h0 : 0 ≤ j) (hj : j < os.length) (ht : ys.take i.toNat = keep (os.take j.toNat)) (hd : ys.drop j.toNat = os.drop j.toNat) (h5 : is52 (os.getD j.toNat dO) = true) :
    ys.take i.toNat = keep (os.take (j + 1).toNat) ∧ ys.drop (j + 1).toNat = os.drop (j + 1).toNat := by
  constructor
  · rw [take_at' dO h0 hj, keep_app, ← ht]
    simp only [keep, List.filter_cons, h5]; simp
  · rw [show (j + 1).toNat = j.toNat + 1 by omega, ← List.drop_drop, hd, List.drop_drop]
theorem drop_getD {os ys : List Opt} {j : Int} (h0 : 0 ≤ j) (hj : j < os.length) (hd : ys.drop j.toNat = os.drop j.toNat) : ys.getD j.toNat dO = os.getD j.toNat dO := by
  have := congrArg (fun l => l[0]?) hd
  simp only [List.getElem?_drop, Nat.add_zero] at this
  rw [List.getD_eq_getElem?_getD, List.getD_eq_getElem?_getD, this]
set_option maxRecDepth 100000 in
theorem del_Opts (os : List Opt) (o : Option Nat) (c : Nat) (sp : List Value) (w : World) (ok : OwnOk o c 2 os.length sp.length) (hL : Holds (rowL o 42 (flat encO os sp)) w) (hn : os.length ≤ 1000000000) :
    Fn Try.prog 161 [.slice (oa o) os.length c, (.func (.func 162) #[] #[])] w (rowL o 42 (flat encO os sp)) fun v L' => ∃ sp' : List Value, v = .slice (oa o) (keep os).length c ∧ OwnOk o c 2 (keep os).length sp'.length ∧ L' = rowL o 42 (flat encO (keep os) sp') := by
  have nk := ok.nk (α := Opt) (xs := os)
  have hcap := ok.2.2.1
  refine Fn.enter Try.func161 rfl rfl rfl rfl hL ?_
  refine CW.seq ?_
  refine CW.region ?_
  refine W.p O.as ?_
  refine WL.nil (Q.tn ?_)
  refine CW.seq ?_
  refine CW.region ?_
  refine W.p O.mv ?_
  refine W.p O.mv ?_
  refine W.callN (first := []) (cap := []) rfl (vt rfl) (AV.cons (vt rfl) (AV.cons (vt rfl) (AV.nil))) (fun w hu => ix_Opt os _ _ w (RowL.h _ hu) hn) ?_; rintro _ _ ⟨k, rfl, rfl, hk⟩
  refine W.p O.as ?_
  refine WL.nil (Q.tn ?_)
  refine CW.seq ?_
  refine CW.seq ?_
  refine CW.region ?_
  refine W.p O.mv ?_
  refine W.p O.eqI ?_
  refine WL.nil (Q.tn ?_)
  refine CW.cond (vt rfl) (fun hc1 => ?_) (fun hc1 => ?_)
  · try simp only [Bool.cond_true_left, Bool.cond_false_right, Bool.or_eq_true, Bool.or_eq_false_iff, Bool.and_eq_true, Bool.and_eq_false_iff, decide_eq_true_eq, decide_eq_false_iff_not, Bool.not_eq_true', Bool.not_eq_false'] at hc1
    refine CW.seq ?_
    refine CW.region ?_
    refine W.p O.mv ?_
    refine W.p O.as ?_
    refine WL.nil (Q.tn ?_)
    refine CW.ret (Q.tr ?_)
    refine ⟨_, rowL o 42 (flat encO os sp), (RVs.tmp rfl RVs.nil), (by repeat (first | exact List.Sublist.refl _ | exact hSub _ | exact List.sublist_append_left _ _ | exact List.nil_sublist _ | refine List.Sublist.append (List.Sublist.refl _) ?_ | apply List.Sublist.cons_cons | apply List.Sublist.cons | exact List.sublist_append_left _ _ | refine List.Sublist.trans ?_ (List.sublist_append_right _ _))), ?_⟩
    have hk0 : os.any is52 = false := by rcases hk with h | h; exact h.2; omega
    rw [keep_none hk0]; exact ⟨sp, rfl, ok, rfl⟩
  try simp only [Bool.cond_true_left, Bool.cond_false_right, Bool.or_eq_true, Bool.or_eq_false_iff, Bool.and_eq_true, Bool.and_eq_false_iff, decide_eq_true_eq, decide_eq_false_iff_not, Bool.not_eq_true', Bool.not_eq_false'] at hc1
  have hk := hk.resolve_left (fun h => hc1 h.1)
  obtain ⟨b, rfl⟩ := own_some ok (by omega)
  refine CW.skip (Q.tn ?_)
  refine CW.seq ?_
  refine CW.seq ?_
  refine CW.region ?_
  refine W.p O.mv ?_
  first | refine W.p O.addN ?_ | refine W.p O.add ?_
  refine W.p O.as ?_
  refine WL.nil (Q.tn ?_)
  refine CW.block ?_
  refine CW.loop (X := Int × Int × (List Opt)) (fun ⟨i, j, ys⟩ => [(0, true, .slice (oa (some b)) os.length c), (1, true, (.func (.func 162) #[] #[])), (5, true, .int .i64 i), (6, true, .int .i64 j)]) (fun ⟨i, j, ys⟩ => rowL (some b) 42 (flat encO ys sp)) (fun ⟨i, j, ys⟩ => 0 ≤ i ∧ i < j ∧ j ≤ os.length ∧ ys.length = os.length ∧ ys.take i.toNat = keep (os.take j.toNat) ∧ ys.drop j.toNat = os.drop j.toNat) (fun ⟨i, j, ys⟩ => (os.length - j).toNat) (k, k + 1, os) ?_ (by repeat (first | exact trivial | refine ⟨rfl, ?_⟩ | refine ⟨by (simp only [List.length_set]; rfl), ?_⟩)) (by repeat (first | exact List.Sublist.refl _ | exact List.sublist_append_left _ _ | exact List.nil_sublist _ | refine List.Sublist.append (List.Sublist.refl _) ?_ | apply List.Sublist.cons_cons | apply List.Sublist.cons | refine List.Sublist.trans ?_ (List.sublist_append_right _ _))) ?_
  · refine ⟨by omega, by omega, by omega, rfl, ?_, rfl⟩
    rw [take_at' dO hk.1 hk.2.1, keep_app, keep_none hk.2.2.2]; simp only [keep, List.filter_cons, hk.2.2.1]; simp
  rintro ⟨i, j, ys⟩ hI
  try dsimp only at hI ⊢
  obtain ⟨h0, h1, h2, hl, ht, hd⟩ := hI
  have hg := fun h => drop_getD (os := os) (ys := ys) (j := j) (by omega) h hd
  refine CW.seq ?_
  refine CW.seq ?_
  refine CW.region ?_
  refine W.p O.mv ?_
  refine W.p O.mv ?_
  refine W.p O.lenL ?_
  refine W.p O.lss ?_
  refine WL.nil (Q.tn ?_)
  refine CW.cond (vt rfl) (fun hc2 => ?_) (fun hc2 => ?_)
  · try simp only [Bool.cond_true_left, Bool.cond_false_right, Bool.or_eq_true, Bool.or_eq_false_iff, Bool.and_eq_true, Bool.and_eq_false_iff, decide_eq_true_eq, decide_eq_false_iff_not, Bool.not_eq_true', Bool.not_eq_false'] at hc2
    refine CW.skip (Q.tn ?_)
    refine CW.seq ?_
    refine CW.block ?_
    refine CW.seq ?_
    refine CW.region ?_
    refine W.p O.mv ?_
    refine W.p O.mv ?_
    refine W.p O.ixA ?_
    refine W.p O.ldsE ?_
    refine W.al rfl rfl fun b1 => ?_
    refine W.st (vt rfl) (vt rfl) rfl ?_
    refine WL.nil (Q.tn ?_)
    refine CW.seq ?_
    refine CW.region ?_
    refine W.p O.mv ?_
    refine W.p O.lds ?_
    refine W.callN (first := []) (cap := []) rfl (vt rfl) (AV.cons (vt rfl) (AV.nil)) (fun w hu => pk_drop (ys.getD j.toNat dO) w) ?_; rintro _ _ ⟨rfl, rfl⟩
    refine W.p O.nt ?_
    refine WL.nil (Q.tn ?_)
    refine CW.cond (vt rfl) (fun hc3 => ?_) (fun hc3 => ?_)
    · try simp only [Bool.cond_true_left, Bool.cond_false_right, Bool.or_eq_true, Bool.or_eq_false_iff, Bool.and_eq_true, Bool.and_eq_false_iff, decide_eq_true_eq, decide_eq_false_iff_not, Bool.not_eq_true', Bool.not_eq_false'] at hc3
      refine CW.seq ?_
      refine CW.region ?_
      refine W.p O.mv ?_
      refine W.p O.mv ?_
      refine W.p O.lds ?_
      refine W.p O.ixA ?_
      refine W.stW (ys.getD j.toNat dO) (vt rfl) (vt rfl) rfl (by omega) ?_
      refine WL.nil (Q.tn ?_)
      refine CW.region ?_
      refine W.p O.mv ?_
      first | refine W.p O.addN ?_ | refine W.p O.add ?_
      refine W.p O.as ?_
      refine WL.nil (Q.bn (Q.tn ?_))
      refine CW.region ?_
      refine W.p O.mv ?_
      first | refine W.p O.addN ?_ | refine W.p O.add ?_
      refine W.p O.as ?_
      refine WL.nil (Q.tn ?_)
      refine ⟨(i + 1, j + 1, ys.set i.toNat (ys.getD j.toNat dO)), ?_, ?_, (by repeat (first | exact trivial | refine ⟨rfl, ?_⟩ | refine ⟨by (simp only [List.length_set]; rfl), ?_⟩)), (by repeat (first | exact List.Sublist.refl _ | exact List.sublist_append_left _ _ | exact List.nil_sublist _ | refine List.Sublist.append (List.Sublist.refl _) ?_ | apply List.Sublist.cons_cons | apply List.Sublist.cons | refine List.Sublist.trans ?_ (List.sublist_append_right _ _)))⟩
      · try dsimp only
        have hs := del_keep h0 h1 hc2 hl ht hd (hg hc2) hc3
        exact ⟨by omega, by omega, by omega, by rw [List.length_set]; exact hl, hs.1, hs.2⟩
      · try dsimp only
        omega
    try simp only [Bool.cond_true_left, Bool.cond_false_right, Bool.or_eq_true, Bool.or_eq_false_iff, Bool.and_eq_true, Bool.and_eq_false_iff, decide_eq_true_eq, decide_eq_false_iff_not, Bool.not_eq_true', Bool.not_eq_false'] at hc3
    refine CW.skip (Q.bn (Q.tn ?_))
    refine CW.region ?_
    refine W.p O.mv ?_
    first | refine W.p O.addN ?_ | refine W.p O.add ?_
    refine W.p O.as ?_
    refine WL.nil (Q.tn ?_)
    refine ⟨(i, j + 1, ys), ?_, ?_, (by repeat (first | exact trivial | refine ⟨rfl, ?_⟩ | refine ⟨by (simp only [List.length_set]; rfl), ?_⟩)), (by repeat (first | exact List.Sublist.refl _ | exact List.sublist_append_left _ _ | exact List.nil_sublist _ | refine List.Sublist.append (List.Sublist.refl _) ?_ | apply List.Sublist.cons_cons | apply List.Sublist.cons | refine List.Sublist.trans ?_ (List.sublist_append_right _ _)))⟩
    · try dsimp only
      have hs := del_skip (by omega) hc2 ht hd (by rw [← hg hc2]; exact hc3)
      exact ⟨by omega, by omega, by omega, hl, hs.1, hs.2⟩
    · try dsimp only
      omega
  try simp only [Bool.cond_true_left, Bool.cond_false_right, Bool.or_eq_true, Bool.or_eq_false_iff, Bool.and_eq_true, Bool.and_eq_false_iff, decide_eq_true_eq, decide_eq_false_iff_not, Bool.not_eq_true', Bool.not_eq_false'] at hc2
  have hne : ys ≠ [] := by intro e; rw [e] at hl; simp only [List.length_nil] at hl; omega
  have hkp : keep os = ys.take i.toNat := by rw [ht, List.take_of_length_le (by omega)]
  have hkl : (keep os).length = i.toNat := by rw [hkp, List.length_take]; omega
  refine CW.exit (Q.te (Q.te (Q.bx (Q.tn ?_))))
  refine CW.seq ?_
  refine CW.region ?_
  refine W.p O.mv ?_
  refine W.p O.mv ?_
  refine W.p O.slL ?_
  refine W.clr (vt rfl) rfl (by decide) (by omega) fun sp2 le2 => ?_
  refine WL.nil (Q.tn ?_)
  refine CW.seq ?_
  refine CW.region ?_
  refine W.p O.mv ?_
  refine W.p O.mv ?_
  refine W.p O.slH ?_
  refine W.p O.as ?_
  refine WL.nil (Q.tn ?_)
  refine CW.ret ?_
  refine ⟨_, rowL (some b) 42 (flat encO (ys.take i.toNat) sp2), (RVs.tmp rfl RVs.nil), (by repeat (first | exact List.Sublist.refl _ | exact hSub _ | exact List.sublist_append_left _ _ | exact List.nil_sublist _ | refine List.Sublist.append (List.Sublist.refl _) ?_ | apply List.Sublist.cons_cons | apply List.Sublist.cons | exact List.sublist_append_left _ _ | refine List.Sublist.trans ?_ (List.sublist_append_right _ _))), ?_⟩
  rw [hkl, hkp]
  refine ⟨sp2, rfl, ?_, rfl⟩
  obtain ⟨q1, q2, q3, q4⟩ := ok
  exact ⟨(fun h => by cases h), by rw [le2]; omega, by omega, q4⟩
end Go.Proofs.Ytkjcmdgideddnaa

set_option linter.unusedVariables false
set_option linter.unusedSimpArgs false
namespace Go.Proofs.Ytkjcmdgideddnaa
open Go Go.RowKit
theorem any_join1 (c : Int) : ∀ (r : List Opt) (o : Opt), ((join1 r o).any fun p => decide (p.code = c)) = ((r.any fun p => decide (p.code = c)) || decide (o.code = c))
  | [], o => by simp [join1]
  | p :: r, o => by
    simp only [join1]
    by_cases h : p.code = o.code
    · rw [if_pos h]; simp only [List.any_cons, h]; cases decide (o.code = c) <;> simp
    · rw [if_neg h]; simp only [List.any_cons, any_join1 c r o]; cases decide (p.code = c) <;> simp
theorem nodupC_join1 : ∀ (r : List Opt) (o : Opt), nodupC r = true → nodupC (join1 r o) = true
  | [], o, _ => by simp [join1, nodupC]
  | p :: r, o, h => by
    simp only [nodupC, Bool.and_eq_true, Bool.not_eq_true'] at h
    simp only [join1]
    by_cases e : p.code = o.code
    · rw [if_pos e]; simp only [nodupC, h.1, h.2]; rfl
    · rw [if_neg e]; simp only [nodupC, any_join1, h.1, nodupC_join1 r o h.2, Bool.false_or]
      rw [decide_eq_false (fun x => e x.symm)]; rfl
theorem nodupC_joinAll : ∀ (ps os : List Opt), nodupC os = true → nodupC (joinAll os ps) = true
  | [], os, h => h
  | p :: r, os, h => nodupC_joinAll r (join1 os p) (nodupC_join1 os p h)
theorem getR_b (s : List UInt8) : (getR s).1.length ≤ s.length ∧ dsum (getR s).1 ≤ s.length ∧ nodupC (getR s).1 = true := by
  unfold getR getOpts
  have h := psR_len s
  unfold psR at h
  cases hp : pieces s with
  | none => simp [dsum, nodupC]
  | some ps =>
    simp only [hp] at h
    have hj := joinAll_len ps []
    have hz : dsum ([] : List Opt) = 0 := rfl
    rw [hz] at hj
    by_cases hm : optsMay (joinAll [] ps) = true
    · have hm2 := hm
      simp only [optsMay, Bool.and_eq_true] at hm2
      simp only [hm, if_true]
      simp only [List.length_nil] at hj
      refine ⟨by omega, by omega, hm2.1.2⟩
    · simp only [hm]; simp [dsum, nodupC]
theorem keep_join1 : ∀ (os : List Opt) (o : Opt), keep (join1 os o) = if is52 o = true then keep os else join1 (keep os) o
  | [], o => by cases h : is52 o <;> simp [join1, keep, h]
  | p :: r, o => by
    have ih := keep_join1 r o
    simp only [join1]
    by_cases e : p.code = o.code
    · rw [if_pos e]
      have e5 : is52 (⟨p.code, p.data ++ o.data⟩ : Opt) = is52 o := by simp only [is52, e]
      have e6 : is52 p = is52 o := by simp only [is52, e]
      cases h : is52 o with
      | true => simp only [keep, List.filter_cons, e5, e6, h]; simp
      | false => simp only [keep, List.filter_cons, e5, e6, h, Bool.not_false, if_true, join1]; rw [if_pos e]; simp
    · rw [if_neg e]
      cases h5 : is52 p with
      | true =>
        have : keep (p :: join1 r o) = keep (join1 r o) := by simp [keep, h5]
        have h2 : keep (p :: r) = keep r := by simp [keep, h5]
        rw [this, h2, ih]
      | false =>
        have : keep (p :: join1 r o) = p :: keep (join1 r o) := by simp [keep, h5]
        have h2 : keep (p :: r) = p :: keep r := by simp [keep, h5]
        rw [this, h2, ih]
        split
        · rfl
        · simp only [join1]; rw [if_neg e]
theorem keep_joinAll : ∀ (ps os : List Opt), keep (joinAll os ps) = joinAll (keep os) (keep ps)
  | [], os => rfl
  | p :: r, os => by
    have : joinAll os (p :: r) = joinAll (join1 os p) r := rfl
    rw [this, keep_joinAll r (join1 os p), keep_join1]
    cases h : is52 p with
    | true => rw [if_pos rfl]; congr 1; simp [keep, h]
    | false => rw [if_neg (by decide)]; have h2 : keep (p :: r) = p :: keep r := by simp [keep, h]
               rw [h2]; rfl
def whP (x : List UInt8 × Bool) : Int := if (x.2 = true ∧ (x.1.length : Int) = 1) ∧ ((x.1.getD 0 0).toNat : Int) ≤ 3 then (x.1.getD 0 0).toNat else 0
theorem whP_rng (x : List UInt8 × Bool) : 0 ≤ whP x ∧ whP x ≤ 3 := by
  unfold whP; split
  · rename_i h; exact ⟨by omega, h.2⟩
  · exact ⟨by omega, by omega⟩
abbrev BTS : List (Int × Int × Int) := [(1, 108, 236), (2, 44, 108)]
abbrev enc3 : (Int × Int × Int) → List Value := fun p => [.int .i64 p.1, .int .i64 p.2.1, .int .i64 p.2.2]
instance : Enc enc3 3 (0, 0, 0) := ⟨fun _ => rfl, by decide⟩
def stepP (s : List UInt8) (wh : Int) (b : Int × Int × Int) (x : List Opt × Int) : List Opt × Int := if bits .and .i64 wh b.1 ≠ 0 ∧ x.2 = 0 then (joinAll x.1 (getR (slc s b.2.1 b.2.2)).1, (getR (slc s b.2.1 b.2.2)).2) else x
def stP (s : List UInt8) (wh : Int) : Nat → List Opt × Int
  | 0 => getR (s.drop 240)
  | n + 1 => stepP s wh (BTS.getD n (0, 0, 0)) (stP s wh n)
def whS (s : List UInt8) : Int := whP (fdF 52 (getR (s.drop 240)).1)
def allP (s : List UInt8) : List Opt := if whS s = 0 then (stP s (whS s) 2).1 else keep (stP s (whS s) 2).1
def ptR (s : List UInt8) : List Opt × Bool := (allP s, decide ((stP s (whS s) 2).2 = 0) && optsMay (allP s))
theorem BTS_at {i : Int} (h0 : 0 ≤ i) (h1 : i < 2) : 0 ≤ (BTS.getD i.toNat (0, 0, 0)).2.1 ∧ (BTS.getD i.toNat (0, 0, 0)).2.1 ≤ (BTS.getD i.toNat (0, 0, 0)).2.2 ∧ (BTS.getD i.toNat (0, 0, 0)).2.2 ≤ 240 := by
  rcases (by omega : i = 0 ∨ i = 1) with rfl | rfl <;> decide
theorem slc_le (s : List UInt8) (i j : Int) : (slc s i j).length ≤ s.length := by simp only [slc, List.length_drop, List.length_take]; omega
theorem CW.permH {P : Program} {n : Nat} {w0 : World} {L0 L L' : Heap} {c : Code} {E : Env} {Q : Post} (hp : L.Perm L') (h : CW P n w0 L0 c E L' Q) : CW P n w0 L0 c E L Q := fun a w ha hw => h a w ha (hw.perm hp.symm)
set_option maxRecDepth 100000 in
theorem pk_parts (s : List UInt8) (w : World) (h1 : 240 ≤ s.length) (hs : s.length ≤ 100000000) : Fn Try.prog 116 [.string (S s)] w [] fun v L' => ∃ o c sp, v = .tuple #[.slice (oa o) (ptR s).1.length c, .bool (ptR s).2] ∧ OwnOk o c 2 (ptR s).1.length (List.length sp) ∧ L' = rowL o 42 (flat encO (ptR s).1 sp) := by
  have hg0 := getR_b (s.drop 240)
  have hd0 : (s.drop 240).length ≤ s.length := by rw [List.length_drop]; omega
  refine Fn.enter Try.func116 rfl rfl rfl rfl (Holds.nil w) ?_
  refine CW.seq ?_
  refine CW.region ?_
  refine W.p O.as ?_
  refine W.p O.as ?_
  refine WL.nil (Q.tn ?_)
  refine CW.seq ?_
  refine CW.region ?_
  refine W.p O.mv ?_
  refine W.p O.slcL ?_
  refine W.callN (first := []) (cap := []) rfl (vt rfl) (AV.cons (vt rfl) (AV.nil)) (fun w hu => opts_Get (s.drop 240) w (by omega)) ?_; rintro _ _ ⟨_, rfl, o11, c11, sp11, rfl, ok11, rfl⟩; have nk11 := ok11.nk
  refine W.p O.mv ?_
  first | refine W.p O.extL ?_ | refine W.p O.ext ?_
  first | refine W.p O.extL ?_ | refine W.p O.ext ?_
  refine W.p O.as ?_
  refine W.p O.as ?_
  refine WL.nil (Q.tn ?_)
  refine CW.seq ?_
  refine CW.region ?_
  refine W.p O.as ?_
  refine WL.nil (Q.tn ?_)
  refine CW.seq ?_
  refine CW.seq ?_
  refine CW.region ?_
  refine W.p O.mv ?_
  refine W.q (O.call ⟨rfl, rfl⟩ (AV.cons (vt rfl) (AV.cons (vt rfl) (AV.nil))) (fun _ w hw => opts_Find (getR (s.drop 240)).1 _ _ _ w (RowL.h _ hw) (by omega))) ?_
  refine W.p O.mv ?_
  first | refine W.p O.extL ?_ | refine W.p O.ext ?_
  first | refine W.p O.extL ?_ | refine W.p O.ext ?_
  refine W.p O.as ?_
  refine W.p O.as ?_
  refine WL.nil (Q.tn ?_)
  refine CW.seq ?_
  refine CW.region ?_
  refine W.p O.mv ?_
  refine W.p O.mv ?_
  refine W.p O.mv ?_
  refine W.p O.len ?_
  refine W.p O.eqI ?_
  refine W.p O.pkB ?_
  refine W.p O.mv ?_
  refine W.p O.mv ?_
  first | refine W.p O.idxS ?_ | refine W.p (O.idxS (h := fun hg => by simp only [cond_true, cond_false, Bool.true_and, Bool.cond_false_right, Bool.cond_true_left, Bool.and_eq_true, Bool.or_eq_true, Bool.or_eq_false_iff, Bool.and_eq_false_iff, Bool.not_eq_true', Bool.not_eq_false', decide_eq_true_eq, decide_eq_false_iff_not, Int.reduceToNat] at *; omega)) ?_
  first | refine W.p O.cvB ?_ | refine W.p O.cv ?_
  refine W.p O.leq ?_
  refine W.p O.pkB ?_
  refine WL.nil (Q.tn ?_)
  refine CW.cond (vt rfl) (fun hc1 => ?_) (fun hc1 => ?_)
  · try simp only [Bool.cond_true_left, Bool.cond_false_right, Bool.or_eq_true, Bool.or_eq_false_iff, Bool.and_eq_true, Bool.and_eq_false_iff, decide_eq_true_eq, decide_eq_false_iff_not, Bool.not_eq_true', Bool.not_eq_false'] at hc1
    refine CW.region ?_
    refine W.p O.mv ?_
    first | refine W.p O.idxS ?_ | refine W.p (O.idxS (h := fun hg => by simp only [cond_true, cond_false, Bool.true_and, Bool.cond_false_right, Bool.cond_true_left, Bool.and_eq_true, Bool.or_eq_true, Bool.or_eq_false_iff, Bool.and_eq_false_iff, Bool.not_eq_true', Bool.not_eq_false', decide_eq_true_eq, decide_eq_false_iff_not, Int.reduceToNat] at *; omega)) ?_
    first | refine W.p O.cvB ?_ | refine W.p O.cv ?_
    refine W.p O.as ?_
    refine WL.nil (Q.tn ?_)
    refine CW.seq ?_
    refine CW.seq ?_
    refine CW.region ?_
    refine W.p (O.bd (hv := PV.cons (vt rfl) (PV.cons (vt rfl) (PV.cons (vt rfl) (PV.nil))))) ?_
    refine W.p (O.bd (hv := PV.cons (vt rfl) (PV.cons (vt rfl) (PV.cons (vt rfl) (PV.nil))))) ?_
    refine W.bs enc3 BTS rfl (PV.cons (vt rfl) (PV.cons (vt rfl) (PV.nil))) rfl rfl rfl (by decide) rfl fun b1 => ?_
    refine W.p O.lenL ?_
    refine W.p O.mv ?_
    refine WL.nil (Q.tn ?_)
    refine CW.block ?_
    refine CW.permH (L' := rowL o11 42 (flat encO (getR (s.drop 240)).1 sp11) ++ [_]) (by rw [List.append_nil]; exact (List.perm_append_singleton _ _).symm) ?_
    refine CW.loop (X := Int × Int × (List Opt) × Int × (Option Nat) × Nat × (List Value) × Nat) (fun ⟨i, wh, al, e, p1, q1, r1, bq⟩ => [(0, true, .string (S s)), (4, true, .slice (oa p1) al.length q1), (5, true, .int .i64 e), (6, true, .int .i64 wh), (40, true, .slice (some ⟨bq, 0, none⟩) 2 2), (41, true, .int .i64 2), (42, true, .int .i64 i)]) (fun ⟨i, wh, al, e, p1, q1, r1, bq⟩ => rowL p1 42 (flat encO al r1) ++ [(bq, .cells (flat enc3 BTS []).toArray 227 (0, 0))]) (fun ⟨i, wh, al, e, p1, q1, r1, bq⟩ => 0 ≤ i ∧ i ≤ 2 ∧ wh = whS s ∧ (al, e) = stP s (whS s) i.toNat ∧ OwnOk p1 q1 2 al.length r1.length ∧ nodupC al = true ∧ al.length ≤ 100000000 * (i + 1) ∧ dsum al ≤ 100000000 * (i + 1)) (fun ⟨i, wh, al, e, p1, q1, r1, bq⟩ => (2 - i).toNat) (0, _, (getR (s.drop 240)).1, (getR (s.drop 240)).2, o11, c11, sp11, _) ?_ (by repeat (first | exact trivial | refine ⟨rfl, ?_⟩ | refine ⟨by (simp only [List.length_set]; rfl), ?_⟩)) (by repeat (first | exact List.Sublist.refl _ | exact List.sublist_append_left _ _ | exact List.nil_sublist _ | refine List.Sublist.append (List.Sublist.refl _) ?_ | apply List.Sublist.cons_cons | apply List.Sublist.cons | refine List.Sublist.trans ?_ (List.sublist_append_right _ _))) ?_
    · refine ⟨by omega, by omega, ?_, rfl, ok11, hg0.2.2, by omega, by omega⟩
      first | (rw [whS, whP, if_pos (show ((fdF 52 (getR (s.drop 240)).1).2 = true ∧ ((fdF 52 (getR (s.drop 240)).1).1.length : Int) = 1) ∧ (((fdF 52 (getR (s.drop 240)).1).1.getD 0 0).toNat : Int) ≤ 3 from hc1)]; rfl) | (rw [whS, whP, if_neg (by rintro ⟨⟨a, b⟩, d⟩; rcases hc1 with (h | h) | h; rw [a] at h; cases h; exact h b; exact h d)])
    rintro ⟨i, wh, al, e, p1, q1, r1, bq⟩ hI
    try dsimp only at hI ⊢
    obtain ⟨h0, h2, hwh, hst, ok, hnd, hll, hds⟩ := hI
    have nk := ok.nk (α := Opt) (xs := al)
    have hbt := fun h => BTS_at h0 (i := i) h
    have hgb := getR_b (slc s (BTS.getD i.toNat (0, 0, 0)).2.1 (BTS.getD i.toNat (0, 0, 0)).2.2)
    have hsl := slc_le s (BTS.getD i.toNat (0, 0, 0)).2.1 (BTS.getD i.toNat (0, 0, 0)).2.2
    refine CW.seq ?_
    refine CW.region ?_
    refine W.p O.lss ?_
    refine WL.nil (Q.tn ?_)
    refine CW.seq ?_
    refine CW.cond (vt rfl) (fun hc2 => ?_) (fun hc2 => ?_)
    · try simp only [Bool.cond_true_left, Bool.cond_false_right, Bool.or_eq_true, Bool.or_eq_false_iff, Bool.and_eq_true, Bool.and_eq_false_iff, decide_eq_true_eq, decide_eq_false_iff_not, Bool.not_eq_true', Bool.not_eq_false'] at hc2
      refine CW.skip (Q.tn ?_)
      refine CW.seq ?_
      refine CW.block ?_
      refine CW.seq ?_
      refine CW.region ?_
      refine W.p O.ixA ?_
      refine W.p O.ldsE ?_
      refine W.al rfl rfl fun b2 => ?_
      refine W.st (vt rfl) (vt rfl) rfl ?_
      refine WL.nil (Q.tn ?_)
      refine CW.seq ?_
      refine CW.region ?_
      refine W.p O.mv ?_
      first | refine W.p O.fb ?_ | refine W.p O.fa ?_
      refine W.p O.ld ?_
      refine W.p O.and ?_
      refine W.p O.neI ?_
      refine W.p O.mv ?_
      refine W.p O.mv ?_
      refine W.p O.eqI ?_
      refine W.p O.pkB ?_
      refine WL.nil (Q.tn ?_)
      refine CW.cond (vt rfl) (fun hc3 => ?_) (fun hc3 => ?_)
      · try simp only [Bool.cond_true_left, Bool.cond_false_right, Bool.or_eq_true, Bool.or_eq_false_iff, Bool.and_eq_true, Bool.and_eq_false_iff, decide_eq_true_eq, decide_eq_false_iff_not, Bool.not_eq_true', Bool.not_eq_false'] at hc3
        refine CW.seq ?_
        refine CW.region ?_
        refine W.p O.as ?_
        refine WL.nil (Q.tn ?_)
        refine CW.seq ?_
        refine CW.region ?_
        refine W.p O.mv ?_
        first | refine W.p O.fb ?_ | refine W.p O.fa ?_
        refine W.p O.ld ?_
        first | refine W.p O.fb ?_ | refine W.p O.fa ?_
        refine W.p O.ld ?_
        refine W.p O.slc ?_
        refine W.callN (first := []) (cap := []) rfl (vt rfl) (AV.cons (vt rfl) (AV.nil)) (fun w hu => opts_Get (slc s (BTS.getD i.toNat (0, 0, 0)).2.1 (BTS.getD i.toNat (0, 0, 0)).2.2) w (by omega)) ?_; rintro _ _ ⟨_, rfl, o12, c12, sp12, rfl, ok12, rfl⟩; have nk12 := ok12.nk
        refine W.p O.mv ?_
        first | refine W.p O.extL ?_ | refine W.p O.ext ?_
        first | refine W.p O.extL ?_ | refine W.p O.ext ?_
        refine W.p O.as ?_
        refine W.p O.as ?_
        refine WL.nil (Q.tn ?_)
        refine CW.region ?_
        refine W.p O.mv ?_
        refine W.p O.mv ?_
        refine W.callN (first := []) (cap := []) rfl (vt rfl) (AV.cons (vt rfl) (AV.cons (vt rfl) (AV.nil))) (fun w hu => opts_Join al (getR (slc s (BTS.getD i.toNat (0, 0, 0)).2.1 (BTS.getD i.toNat (0, 0, 0)).2.2)).1 _ _ _ _ w (RowL.h _ hu) (RowL.h _ hu) (by omega) (by omega) (by omega) hnd) ?_; rintro _ _ ⟨o13, c13, sp13, rfl, ok13, rfl⟩; have nk13 := ok13.nk
        refine W.p O.as ?_
        refine WL.nil (Q.bn (Q.tn ?_))
        refine CW.region ?_
        first | refine W.p O.addN ?_ | refine W.p O.add ?_
        refine W.p O.mv ?_
        refine WL.nil (Q.tn ?_)
        refine ⟨(_, _, _, _, _, _, _, _), ?_, ?_, (by repeat (first | exact trivial | refine ⟨rfl, ?_⟩ | refine ⟨by (simp only [List.length_set]; rfl), ?_⟩)), (by repeat (first | exact List.Sublist.refl _ | exact List.sublist_append_left _ _ | exact List.nil_sublist _ | refine List.Sublist.append (List.Sublist.refl _) ?_ | apply List.Sublist.cons_cons | apply List.Sublist.cons | refine List.Sublist.trans ?_ (List.sublist_append_right _ _)))⟩
        · try dsimp only
          have hjl := joinAll_len (getR (slc s (BTS.getD i.toNat (0, 0, 0)).2.1 (BTS.getD i.toNat (0, 0, 0)).2.2)).1 al
          have hj1 : ((joinAll al (getR (slc s (BTS.getD i.toNat (0, 0, 0)).2.1 (BTS.getD i.toNat (0, 0, 0)).2.2)).1).length : Int) ≤ 100000000 * (i + 1 + 1) := by omega
          have hj2 : (dsum (joinAll al (getR (slc s (BTS.getD i.toNat (0, 0, 0)).2.1 (BTS.getD i.toNat (0, 0, 0)).2.2)).1) : Int) ≤ 100000000 * (i + 1 + 1) := by omega
          refine ⟨by omega, by omega, hwh, ?_, by assumption, nodupC_joinAll _ _ hnd, hj1, hj2⟩
          rw [show (i + 1).toNat = i.toNat + 1 by omega, stP, ← hst, stepP, if_pos (by rw [← hwh]; exact hc3)]; rfl
        · try dsimp only
          omega
      try simp only [Bool.cond_true_left, Bool.cond_false_right, Bool.or_eq_true, Bool.or_eq_false_iff, Bool.and_eq_true, Bool.and_eq_false_iff, decide_eq_true_eq, decide_eq_false_iff_not, Bool.not_eq_true', Bool.not_eq_false'] at hc3
      refine CW.skip (Q.bn (Q.tn ?_))
      refine CW.region ?_
      first | refine W.p O.addN ?_ | refine W.p O.add ?_
      refine W.p O.mv ?_
      refine WL.nil (Q.tn ?_)
      refine ⟨(_, _, _, _, _, _, _, _), ?_, ?_, (by repeat (first | exact trivial | refine ⟨rfl, ?_⟩ | refine ⟨by (simp only [List.length_set]; rfl), ?_⟩)), (by repeat (first | exact List.Sublist.refl _ | exact List.sublist_append_left _ _ | exact List.nil_sublist _ | refine List.Sublist.append (List.Sublist.refl _) ?_ | apply List.Sublist.cons_cons | apply List.Sublist.cons | refine List.Sublist.trans ?_ (List.sublist_append_right _ _)))⟩
      · try dsimp only
        refine ⟨by omega, by omega, hwh, ?_, ok, hnd, by omega, by omega⟩
        rw [show (i + 1).toNat = i.toNat + 1 by omega, stP, ← hst, stepP, if_neg (by rw [← hwh]; rintro ⟨a, b⟩; rcases hc3 with h | h; exact a h; exact h b)]
      · try dsimp only
        omega
    try simp only [Bool.cond_true_left, Bool.cond_false_right, Bool.or_eq_true, Bool.or_eq_false_iff, Bool.and_eq_true, Bool.and_eq_false_iff, decide_eq_true_eq, decide_eq_false_iff_not, Bool.not_eq_true', Bool.not_eq_false'] at hc2
    have h2s : stP s (whS s) 2 = (al, e) := by rw [hst, show i.toNat = 2 by omega]
    refine CW.exit (Q.te (Q.te (Q.bx (Q.tn ?_))))
    refine CW.seq ?_
    refine CW.seq ?_
    refine CW.region ?_
    refine W.p O.mv ?_
    refine W.p O.neI ?_
    refine WL.nil (Q.tn ?_)
    refine CW.cond (vt rfl) (fun hc4 => ?_) (fun hc4 => ?_)
    · try simp only [Bool.cond_true_left, Bool.cond_false_right, Bool.or_eq_true, Bool.or_eq_false_iff, Bool.and_eq_true, Bool.and_eq_false_iff, decide_eq_true_eq, decide_eq_false_iff_not, Bool.not_eq_true', Bool.not_eq_false'] at hc4
      refine CW.region ?_
      refine W.p O.mv ?_
      refine W.callS (first := []) (cap := []) (rowL p1 42 (flat encO al r1)) rfl (vt rfl) (AV.cons (vt rfl) (AV.cons (vt rfl) (AV.nil))) (fun w hu hh => del_Opts al p1 q1 r1 w ok hh (by omega)) ?_; rintro _ _ ⟨spd, rfl, okd, rfl⟩; have nkd := okd.nk (α := Opt) (xs := keep al); have hkl := keep_len al
      refine W.p O.as ?_
      refine WL.nil (Q.tn ?_)
      refine CW.seq ?_
      refine CW.region ?_
      refine W.p O.mv ?_
      refine W.p O.mv ?_
      refine W.p O.eqI ?_
      refine W.p O.mv ?_
      refine W.p O.mv ?_
      refine W.q (O.call ⟨rfl, rfl⟩ (AV.cons (vs rfl) (AV.nil)) (fun _ w hw => opts_May _ _ _ w (RowL.h _ hw) (by omega))) ?_
      refine W.p O.pkB ?_
      refine W.p O.as ?_
      refine W.p O.as ?_
      refine WL.nil (Q.tn ?_)
      refine CW.ret ?_
      refine ⟨_, rowL p1 42 (flat encO (keep al) spd), (RVs.tmp rfl (RVs.tmp rfl RVs.nil)), (by repeat (first | exact List.Sublist.refl _ | exact hSub _ | exact List.sublist_append_left _ _ | exact List.nil_sublist _ | refine List.Sublist.append (List.Sublist.refl _) ?_ | apply List.Sublist.cons_cons | apply List.Sublist.cons | exact List.sublist_append_left _ _ | refine List.Sublist.trans ?_ (List.sublist_append_right _ _))), ?_⟩
      have hA : allP s = keep al := by rw [allP, if_neg (by rw [← hwh]; exact hc4), h2s]
      rw [ptR, hA, h2s]; exact ⟨p1, q1, spd, by cases decide (e = 0) <;> rfl, okd, rfl⟩
    try simp only [Bool.cond_true_left, Bool.cond_false_right, Bool.or_eq_true, Bool.or_eq_false_iff, Bool.and_eq_true, Bool.and_eq_false_iff, decide_eq_true_eq, decide_eq_false_iff_not, Bool.not_eq_true', Bool.not_eq_false'] at hc4
    refine CW.skip (Q.tn ?_)
    refine CW.seq ?_
    refine CW.region ?_
    refine W.p O.mv ?_
    refine W.p O.mv ?_
    refine W.p O.eqI ?_
    refine W.p O.mv ?_
    refine W.p O.mv ?_
    refine W.q (O.call ⟨rfl, rfl⟩ (AV.cons (vs rfl) (AV.nil)) (fun _ w hw => opts_May _ _ _ w (RowL.h _ hw) (by omega))) ?_
    refine W.p O.pkB ?_
    refine W.p O.as ?_
    refine W.p O.as ?_
    refine WL.nil (Q.tn ?_)
    refine CW.ret ?_
    refine ⟨_, rowL p1 42 (flat encO al r1), (RVs.tmp rfl (RVs.tmp rfl RVs.nil)), (by repeat (first | exact List.Sublist.refl _ | exact hSub _ | exact List.sublist_append_left _ _ | exact List.nil_sublist _ | refine List.Sublist.append (List.Sublist.refl _) ?_ | apply List.Sublist.cons_cons | apply List.Sublist.cons | exact List.sublist_append_left _ _ | refine List.Sublist.trans ?_ (List.sublist_append_right _ _))), ?_⟩
    have hA : allP s = al := by rw [allP, if_pos (by rw [← hwh]; exact hc4), h2s]
    rw [ptR, hA, h2s]; exact ⟨p1, q1, r1, by cases decide (e = 0) <;> rfl, ok, rfl⟩
  try simp only [Bool.cond_true_left, Bool.cond_false_right, Bool.or_eq_true, Bool.or_eq_false_iff, Bool.and_eq_true, Bool.and_eq_false_iff, decide_eq_true_eq, decide_eq_false_iff_not, Bool.not_eq_true', Bool.not_eq_false'] at hc1
  refine CW.skip (Q.tn ?_)
  refine CW.seq ?_
  refine CW.seq ?_
  refine CW.region ?_
  refine W.p (O.bd (hv := PV.cons (vt rfl) (PV.cons (vt rfl) (PV.cons (vt rfl) (PV.nil))))) ?_
  refine W.p (O.bd (hv := PV.cons (vt rfl) (PV.cons (vt rfl) (PV.cons (vt rfl) (PV.nil))))) ?_
  refine W.bs enc3 BTS rfl (PV.cons (vt rfl) (PV.cons (vt rfl) (PV.nil))) rfl rfl rfl (by decide) rfl fun b3 => ?_
  refine W.p O.lenL ?_
  refine W.p O.mv ?_
  refine WL.nil (Q.tn ?_)
  refine CW.block ?_
  refine CW.permH (L' := rowL o11 42 (flat encO (getR (s.drop 240)).1 sp11) ++ [_]) (by rw [List.append_nil]; exact (List.perm_append_singleton _ _).symm) ?_
  refine CW.loop (X := Int × Int × (List Opt) × Int × (Option Nat) × Nat × (List Value) × Nat) (fun ⟨i, wh, al, e, p1, q1, r1, bq⟩ => [(0, true, .string (S s)), (4, true, .slice (oa p1) al.length q1), (5, true, .int .i64 e), (6, true, .int .i64 wh), (40, true, .slice (some ⟨bq, 0, none⟩) 2 2), (41, true, .int .i64 2), (42, true, .int .i64 i)]) (fun ⟨i, wh, al, e, p1, q1, r1, bq⟩ => rowL p1 42 (flat encO al r1) ++ [(bq, .cells (flat enc3 BTS []).toArray 227 (0, 0))]) (fun ⟨i, wh, al, e, p1, q1, r1, bq⟩ => 0 ≤ i ∧ i ≤ 2 ∧ wh = whS s ∧ (al, e) = stP s (whS s) i.toNat ∧ OwnOk p1 q1 2 al.length r1.length ∧ nodupC al = true ∧ al.length ≤ 100000000 * (i + 1) ∧ dsum al ≤ 100000000 * (i + 1)) (fun ⟨i, wh, al, e, p1, q1, r1, bq⟩ => (2 - i).toNat) (0, _, (getR (s.drop 240)).1, (getR (s.drop 240)).2, o11, c11, sp11, _) ?_ (by repeat (first | exact trivial | refine ⟨rfl, ?_⟩ | refine ⟨by (simp only [List.length_set]; rfl), ?_⟩)) (by repeat (first | exact List.Sublist.refl _ | exact List.sublist_append_left _ _ | exact List.nil_sublist _ | refine List.Sublist.append (List.Sublist.refl _) ?_ | apply List.Sublist.cons_cons | apply List.Sublist.cons | refine List.Sublist.trans ?_ (List.sublist_append_right _ _))) ?_
  · refine ⟨by omega, by omega, ?_, rfl, ok11, hg0.2.2, by omega, by omega⟩
    first | (rw [whS, whP, if_pos (show ((fdF 52 (getR (s.drop 240)).1).2 = true ∧ ((fdF 52 (getR (s.drop 240)).1).1.length : Int) = 1) ∧ (((fdF 52 (getR (s.drop 240)).1).1.getD 0 0).toNat : Int) ≤ 3 from hc1)]; rfl) | (rw [whS, whP, if_neg (by rintro ⟨⟨a, b⟩, d⟩; rcases hc1 with (h | h) | h; rw [a] at h; cases h; exact h b; exact h d)])
  rintro ⟨i, wh, al, e, p1, q1, r1, bq⟩ hI
  try dsimp only at hI ⊢
  obtain ⟨h0, h2, hwh, hst, ok, hnd, hll, hds⟩ := hI
  have nk := ok.nk (α := Opt) (xs := al)
  have hbt := fun h => BTS_at h0 (i := i) h
  have hgb := getR_b (slc s (BTS.getD i.toNat (0, 0, 0)).2.1 (BTS.getD i.toNat (0, 0, 0)).2.2)
  have hsl := slc_le s (BTS.getD i.toNat (0, 0, 0)).2.1 (BTS.getD i.toNat (0, 0, 0)).2.2
  refine CW.seq ?_
  refine CW.region ?_
  refine W.p O.lss ?_
  refine WL.nil (Q.tn ?_)
  refine CW.seq ?_
  refine CW.cond (vt rfl) (fun hc5 => ?_) (fun hc5 => ?_)
  · try simp only [Bool.cond_true_left, Bool.cond_false_right, Bool.or_eq_true, Bool.or_eq_false_iff, Bool.and_eq_true, Bool.and_eq_false_iff, decide_eq_true_eq, decide_eq_false_iff_not, Bool.not_eq_true', Bool.not_eq_false'] at hc5
    refine CW.skip (Q.tn ?_)
    refine CW.seq ?_
    refine CW.block ?_
    refine CW.seq ?_
    refine CW.region ?_
    refine W.p O.ixA ?_
    refine W.p O.ldsE ?_
    refine W.al rfl rfl fun b4 => ?_
    refine W.st (vt rfl) (vt rfl) rfl ?_
    refine WL.nil (Q.tn ?_)
    refine CW.seq ?_
    refine CW.region ?_
    refine W.p O.mv ?_
    first | refine W.p O.fb ?_ | refine W.p O.fa ?_
    refine W.p O.ld ?_
    refine W.p O.and ?_
    refine W.p O.neI ?_
    refine W.p O.mv ?_
    refine W.p O.mv ?_
    refine W.p O.eqI ?_
    refine W.p O.pkB ?_
    refine WL.nil (Q.tn ?_)
    refine CW.cond (vt rfl) (fun hc6 => ?_) (fun hc6 => ?_)
    · try simp only [Bool.cond_true_left, Bool.cond_false_right, Bool.or_eq_true, Bool.or_eq_false_iff, Bool.and_eq_true, Bool.and_eq_false_iff, decide_eq_true_eq, decide_eq_false_iff_not, Bool.not_eq_true', Bool.not_eq_false'] at hc6
      refine CW.seq ?_
      refine CW.region ?_
      refine W.p O.as ?_
      refine WL.nil (Q.tn ?_)
      refine CW.seq ?_
      refine CW.region ?_
      refine W.p O.mv ?_
      first | refine W.p O.fb ?_ | refine W.p O.fa ?_
      refine W.p O.ld ?_
      first | refine W.p O.fb ?_ | refine W.p O.fa ?_
      refine W.p O.ld ?_
      refine W.p O.slc ?_
      refine W.callN (first := []) (cap := []) rfl (vt rfl) (AV.cons (vt rfl) (AV.nil)) (fun w hu => opts_Get (slc s (BTS.getD i.toNat (0, 0, 0)).2.1 (BTS.getD i.toNat (0, 0, 0)).2.2) w (by omega)) ?_; rintro _ _ ⟨_, rfl, o12, c12, sp12, rfl, ok12, rfl⟩; have nk12 := ok12.nk
      refine W.p O.mv ?_
      first | refine W.p O.extL ?_ | refine W.p O.ext ?_
      first | refine W.p O.extL ?_ | refine W.p O.ext ?_
      refine W.p O.as ?_
      refine W.p O.as ?_
      refine WL.nil (Q.tn ?_)
      refine CW.region ?_
      refine W.p O.mv ?_
      refine W.p O.mv ?_
      refine W.callN (first := []) (cap := []) rfl (vt rfl) (AV.cons (vt rfl) (AV.cons (vt rfl) (AV.nil))) (fun w hu => opts_Join al (getR (slc s (BTS.getD i.toNat (0, 0, 0)).2.1 (BTS.getD i.toNat (0, 0, 0)).2.2)).1 _ _ _ _ w (RowL.h _ hu) (RowL.h _ hu) (by omega) (by omega) (by omega) hnd) ?_; rintro _ _ ⟨o13, c13, sp13, rfl, ok13, rfl⟩; have nk13 := ok13.nk
      refine W.p O.as ?_
      refine WL.nil (Q.bn (Q.tn ?_))
      refine CW.region ?_
      first | refine W.p O.addN ?_ | refine W.p O.add ?_
      refine W.p O.mv ?_
      refine WL.nil (Q.tn ?_)
      refine ⟨(_, _, _, _, _, _, _, _), ?_, ?_, (by repeat (first | exact trivial | refine ⟨rfl, ?_⟩ | refine ⟨by (simp only [List.length_set]; rfl), ?_⟩)), (by repeat (first | exact List.Sublist.refl _ | exact List.sublist_append_left _ _ | exact List.nil_sublist _ | refine List.Sublist.append (List.Sublist.refl _) ?_ | apply List.Sublist.cons_cons | apply List.Sublist.cons | refine List.Sublist.trans ?_ (List.sublist_append_right _ _)))⟩
      · try dsimp only
        have hjl := joinAll_len (getR (slc s (BTS.getD i.toNat (0, 0, 0)).2.1 (BTS.getD i.toNat (0, 0, 0)).2.2)).1 al
        have hj1 : ((joinAll al (getR (slc s (BTS.getD i.toNat (0, 0, 0)).2.1 (BTS.getD i.toNat (0, 0, 0)).2.2)).1).length : Int) ≤ 100000000 * (i + 1 + 1) := by omega
        have hj2 : (dsum (joinAll al (getR (slc s (BTS.getD i.toNat (0, 0, 0)).2.1 (BTS.getD i.toNat (0, 0, 0)).2.2)).1) : Int) ≤ 100000000 * (i + 1 + 1) := by omega
        refine ⟨by omega, by omega, hwh, ?_, by assumption, nodupC_joinAll _ _ hnd, hj1, hj2⟩
        rw [show (i + 1).toNat = i.toNat + 1 by omega, stP, ← hst, stepP, if_pos (by rw [← hwh]; exact hc6)]; rfl
      · try dsimp only
        omega
    try simp only [Bool.cond_true_left, Bool.cond_false_right, Bool.or_eq_true, Bool.or_eq_false_iff, Bool.and_eq_true, Bool.and_eq_false_iff, decide_eq_true_eq, decide_eq_false_iff_not, Bool.not_eq_true', Bool.not_eq_false'] at hc6
    refine CW.skip (Q.bn (Q.tn ?_))
    refine CW.region ?_
    first | refine W.p O.addN ?_ | refine W.p O.add ?_
    refine W.p O.mv ?_
    refine WL.nil (Q.tn ?_)
    refine ⟨(_, _, _, _, _, _, _, _), ?_, ?_, (by repeat (first | exact trivial | refine ⟨rfl, ?_⟩ | refine ⟨by (simp only [List.length_set]; rfl), ?_⟩)), (by repeat (first | exact List.Sublist.refl _ | exact List.sublist_append_left _ _ | exact List.nil_sublist _ | refine List.Sublist.append (List.Sublist.refl _) ?_ | apply List.Sublist.cons_cons | apply List.Sublist.cons | refine List.Sublist.trans ?_ (List.sublist_append_right _ _)))⟩
    · try dsimp only
      refine ⟨by omega, by omega, hwh, ?_, ok, hnd, by omega, by omega⟩
      rw [show (i + 1).toNat = i.toNat + 1 by omega, stP, ← hst, stepP, if_neg (by rw [← hwh]; rintro ⟨a, b⟩; rcases hc6 with h | h; exact a h; exact h b)]
    · try dsimp only
      omega
  try simp only [Bool.cond_true_left, Bool.cond_false_right, Bool.or_eq_true, Bool.or_eq_false_iff, Bool.and_eq_true, Bool.and_eq_false_iff, decide_eq_true_eq, decide_eq_false_iff_not, Bool.not_eq_true', Bool.not_eq_false'] at hc5
  have h2s : stP s (whS s) 2 = (al, e) := by rw [hst, show i.toNat = 2 by omega]
  refine CW.exit (Q.te (Q.te (Q.bx (Q.tn ?_))))
  refine CW.seq ?_
  refine CW.seq ?_
  refine CW.region ?_
  refine W.p O.mv ?_
  refine W.p O.neI ?_
  refine WL.nil (Q.tn ?_)
  refine CW.cond (vt rfl) (fun hc7 => ?_) (fun hc7 => ?_)
  · try simp only [Bool.cond_true_left, Bool.cond_false_right, Bool.or_eq_true, Bool.or_eq_false_iff, Bool.and_eq_true, Bool.and_eq_false_iff, decide_eq_true_eq, decide_eq_false_iff_not, Bool.not_eq_true', Bool.not_eq_false'] at hc7
    refine CW.region ?_
    refine W.p O.mv ?_
    refine W.callS (first := []) (cap := []) (rowL p1 42 (flat encO al r1)) rfl (vt rfl) (AV.cons (vt rfl) (AV.cons (vt rfl) (AV.nil))) (fun w hu hh => del_Opts al p1 q1 r1 w ok hh (by omega)) ?_; rintro _ _ ⟨spd, rfl, okd, rfl⟩; have nkd := okd.nk (α := Opt) (xs := keep al); have hkl := keep_len al
    refine W.p O.as ?_
    refine WL.nil (Q.tn ?_)
    refine CW.seq ?_
    refine CW.region ?_
    refine W.p O.mv ?_
    refine W.p O.mv ?_
    refine W.p O.eqI ?_
    refine W.p O.mv ?_
    refine W.p O.mv ?_
    refine W.q (O.call ⟨rfl, rfl⟩ (AV.cons (vs rfl) (AV.nil)) (fun _ w hw => opts_May _ _ _ w (RowL.h _ hw) (by omega))) ?_
    refine W.p O.pkB ?_
    refine W.p O.as ?_
    refine W.p O.as ?_
    refine WL.nil (Q.tn ?_)
    refine CW.ret ?_
    refine ⟨_, rowL p1 42 (flat encO (keep al) spd), (RVs.tmp rfl (RVs.tmp rfl RVs.nil)), (by repeat (first | exact List.Sublist.refl _ | exact hSub _ | exact List.sublist_append_left _ _ | exact List.nil_sublist _ | refine List.Sublist.append (List.Sublist.refl _) ?_ | apply List.Sublist.cons_cons | apply List.Sublist.cons | exact List.sublist_append_left _ _ | refine List.Sublist.trans ?_ (List.sublist_append_right _ _))), ?_⟩
    have hA : allP s = keep al := by rw [allP, if_neg (by rw [← hwh]; exact hc7), h2s]
    rw [ptR, hA, h2s]; exact ⟨p1, q1, spd, by cases decide (e = 0) <;> rfl, okd, rfl⟩
  try simp only [Bool.cond_true_left, Bool.cond_false_right, Bool.or_eq_true, Bool.or_eq_false_iff, Bool.and_eq_true, Bool.and_eq_false_iff, decide_eq_true_eq, decide_eq_false_iff_not, Bool.not_eq_true', Bool.not_eq_false'] at hc7
  refine CW.skip (Q.tn ?_)
  refine CW.seq ?_
  refine CW.region ?_
  refine W.p O.mv ?_
  refine W.p O.mv ?_
  refine W.p O.eqI ?_
  refine W.p O.mv ?_
  refine W.p O.mv ?_
  refine W.q (O.call ⟨rfl, rfl⟩ (AV.cons (vs rfl) (AV.nil)) (fun _ w hw => opts_May _ _ _ w (RowL.h _ hw) (by omega))) ?_
  refine W.p O.pkB ?_
  refine W.p O.as ?_
  refine W.p O.as ?_
  refine WL.nil (Q.tn ?_)
  refine CW.ret ?_
  refine ⟨_, rowL p1 42 (flat encO al r1), (RVs.tmp rfl (RVs.tmp rfl RVs.nil)), (by repeat (first | exact List.Sublist.refl _ | exact hSub _ | exact List.sublist_append_left _ _ | exact List.nil_sublist _ | refine List.Sublist.append (List.Sublist.refl _) ?_ | apply List.Sublist.cons_cons | apply List.Sublist.cons | exact List.sublist_append_left _ _ | refine List.Sublist.trans ?_ (List.sublist_append_right _ _))), ?_⟩
  have hA : allP s = al := by rw [allP, if_pos (by rw [← hwh]; exact hc7), h2s]
  rw [ptR, hA, h2s]; exact ⟨p1, q1, r1, by cases decide (e = 0) <;> rfl, ok, rfl⟩
end Go.Proofs.Ytkjcmdgideddnaa

set_option linter.unusedVariables false
set_option linter.unusedSimpArgs false
namespace Go.Proofs.Ytkjcmdgideddnaa
open Go Go.RowKit
abbrev pkC (vs : List Int) : List Value := [.int .i64 (vs.getD 0 0), .int .i64 (vs.getD 1 0), .int .i64 (vs.getD 3 0), .int .i64 (vs.getD 4 0), .int .i64 (vs.getD 5 0), .int .i64 (vs.getD 6 0), .int .i64 (vs.getD 7 0), .int .i64 (vs.getD 8 0), .int .i64 (vs.getD 9 0), .int .i64 (vs.getD 10 0), .string (S []), .slice none 0 0]
abbrev pkH (b l : Nat) (vs : List Int) (M : Heap) : Heap := (l, .cells [.int .i64 (vs.getD 2 0)].toArray 3 (0, 0)) :: (b, .cells (pkC vs).toArray 72 (0, 0)) :: M
theorem W.stF {P : Program} {n : Nat} {w0 : World} {L0 : Heap} {all rest : List Oper} {E : Env} {Q : Post} {x y : Operand} {T ty : TypeId} {pos : String} {aft : Array Edge} {b l : Nat} {vs : List Int} {y1 y2 : Nat × Obj} {A M : Heap} {i u : Int} [ht : TSize P T 1] (hv : vs.length = 11) (h0 : 0 ≤ i) (h1 : i < 11)
    (hx : Val true E x (.pointer (some ((fieldsL b l).getD i.toNat dF).1))) (hy : Val true E y (.int .i64 u)) (k : WL P n w0 L0 all rest E (y1 :: (A ++ (y2 :: pkH b l (vs.set i.toNat u) M))) Q) : WL P n w0 L0 all (⟨none, .store T x y, ty, pos, aft, none⟩ :: rest) E (y1 :: (A ++ (y2 :: pkH b l vs M))) Q := by
  obtain ⟨v0, v1, v2, v3, v4, v5, v6, v7, v8, v9, v10, rfl⟩ : ∃ v0 v1 v2 v3 v4 v5 v6 v7 v8 v9 v10, vs = [v0, v1, v2, v3, v4, v5, v6, v7, v8, v9, v10] := by
    match vs, hv with
    | [v0, v1, v2, v3, v4, v5, v6, v7, v8, v9, v10], _ => exact ⟨v0, v1, v2, v3, v4, v5, v6, v7, v8, v9, v10, rfl⟩
  rcases (by omega : i = 0 ∨ i = 1 ∨ i = 2 ∨ i = 3 ∨ i = 4 ∨ i = 5 ∨ i = 6 ∨ i = 7 ∨ i = 8 ∨ i = 9 ∨ i = 10) with rfl | rfl | rfl | rfl | rfl | rfl | rfl | rfl | rfl | rfl | rfl
  all_goals exact W.st hx hy rfl k
abbrev OFF : List Int := [0, 1, 2, 3, 4, 8, 10, 12, 16, 20, 24, 28]
abbrev nmS (s : List UInt8) (i j : Int) : Int := numI (slc s i j)
def vsG (s : List UInt8) : List Int := [nmS s 0 1, nmS s 1 2, nmS s 2 3, nmS s 3 4, nmS s 4 8, nmS s 8 10, nmS s 10 12, nmS s 12 16, nmS s 16 20, nmS s 20 24, nmS s 24 28]
theorem off_at (s : List UInt8) {i : Int} (h0 : 0 ≤ i) (h1 : i < 11) : (PFK.getD i.toNat 0 = 1 ∨ PFK.getD i.toNat 0 = 2 ∨ PFK.getD i.toNat 0 = 4) ∧ OFF.getD (i + 1).toNat 0 = OFF.getD i.toNat 0 + PFK.getD i.toNat 0 ∧ 0 ≤ OFF.getD i.toNat 0 ∧ OFF.getD i.toNat 0 + PFK.getD i.toNat 0 ≤ 28 ∧ (vsG s).getD i.toNat 0 = numI (slc s (OFF.getD i.toNat 0) (OFF.getD i.toNat 0 + PFK.getD i.toNat 0)) := by
  rcases (by omega : i = 0 ∨ i = 1 ∨ i = 2 ∨ i = 3 ∨ i = 4 ∨ i = 5 ∨ i = 6 ∨ i = 7 ∨ i = 8 ∨ i = 9 ∨ i = 10) with rfl | rfl | rfl | rfl | rfl | rfl | rfl | rfl | rfl | rfl | rfl <;> exact ⟨by decide, by decide, by decide, by decide, rfl⟩
theorem vs_set {L vs : List Int} {i : Int} {m : Nat} (h0 : 0 ≤ i) (h1 : i < L.length) (hm : L.length = m) (hv : vs = L.take i.toNat ++ List.replicate (m - i.toNat) 0) : vs.set i.toNat (L.getD i.toNat 0) = L.take (i + 1).toNat ++ List.replicate (m - (i + 1).toNat) 0 := by
  have e1 : (L.take i.toNat).length = i.toNat := by rw [List.length_take]; omega
  have e2 : m - i.toNat = (m - (i + 1).toNat) + 1 := by omega
  rw [hv, take_at' 0 h0 h1, e2, List.replicate_succ, List.set_append_right _ _ (by omega), e1, Nat.sub_self, List.set_cons_zero, List.append_assoc]; rfl
abbrev noPk : Pkt := ⟨0, 0, 0, 0, 0, 0, 0, 0, 0, 0, [], []⟩
def pkOf (s : List UInt8) : Pkt := ⟨nmS s 0 1, nmS s 1 2, nmS s 3 4, nmS s 4 8, nmS s 8 10, nmS s 10 12, nmS s 12 16, nmS s 16 20, nmS s 20 24, nmS s 24 28, slc s 28 (28 + nmS s 2 3), (ptR s).1⟩
def pkGet (s : List UInt8) : Pkt × Int := if s.length < 240 ∨ slc s 236 240 ≠ cookieB then (noPk, 700) else if 16 < nmS s 2 3 ∨ (ptR s).2 = false then (noPk, 700) else (pkOf s, 0)
theorem nm3 (s : List UInt8) : 0 ≤ nmS s 2 3 ∧ nmS s 2 3 ≤ 255 := numI_1 (by simp only [slc, List.length_drop, List.length_take]; omega)
set_option maxRecDepth 100000 in
theorem pk_Get (s : List UInt8) (w : World) (hs : s.length ≤ 100000000) : Fn Try.prog 59 [.string (S s)] w [] fun v L' => ∃ o c sp, v = .tuple #[vPk (pkGet s).1 (oa o) c, .int .i64 (pkGet s).2] ∧ OwnOk o c 2 (pkGet s).1.opts.length (List.length sp) ∧ L' = rowL o 42 (flat encO (pkGet s).1.opts sp) := by
  have hn3 := nm3 s
  have hs47 : s.length ≤ 140737488355328 := by omega
  refine Fn.enter Try.func59 rfl rfl rfl rfl (Holds.nil w) ?_
  refine CW.seq ?_
  refine CW.region ?_
  refine W.al rfl rfl fun b1 => ?_
  refine W.p O.as ?_
  refine WL.nil (Q.tn ?_)
  refine CW.seq ?_
  refine CW.seq ?_
  refine CW.draw 9 rfl (by kernel_rfl) ?_
  refine WQ.p O.mv ?_
  refine WQ.p O.len ?_
  refine WQ.p O.lss ?_
  refine WQ.p O.mv ?_
  refine WQ.p O.mv ?_
  refine WQ.p O.slc ?_
  refine WQ.q (O.call ⟨rfl, rfl⟩ (AV.cons (vt rfl) (AV.cons (vt rfl) (AV.nil))) (fun _ w hw => be_Bytes _ 4 w (by decide))) ?_
  refine WQ.p O.neS ?_
  refine WQ.p O.pkB ?_
  refine WQ.nil ?_
  refine WL.nil (Q.tn ?_)
  refine CW.cond (vt rfl) (fun hc1 => ?_) (fun hc1 => ?_)
  · try simp only [Bool.cond_true_left, Bool.cond_false_right, Bool.or_eq_true, Bool.or_eq_false_iff, Bool.and_eq_true, Bool.and_eq_false_iff, decide_eq_true_eq, decide_eq_false_iff_not, Bool.not_eq_true', Bool.not_eq_false'] at hc1
    refine CW.seq ?_
    refine CW.region ?_
    refine W.p (O.bd (hv := PV.nil)) ?_
    refine W.st (vt rfl) (vt rfl) rfl ?_
    refine W.p O.as ?_
    refine WL.nil (Q.tn ?_)
    refine CW.ret (Q.tr ?_)
    refine ⟨_, [], (RVs.cell rfl (RVs.tmp rfl RVs.nil)), List.nil_sublist _, ?_⟩
    rw [pkGet, if_pos (show s.length < 240 ∨ slc s 236 240 ≠ cookieB by rcases hc1 with h | h; exact .inl (by omega); exact .inr h)]
    exact ⟨none, 0, [], rfl, OwnOk.nil, rfl⟩
  try simp only [Bool.cond_true_left, Bool.cond_false_right, Bool.or_eq_true, Bool.or_eq_false_iff, Bool.and_eq_true, Bool.and_eq_false_iff, decide_eq_true_eq, decide_eq_false_iff_not, Bool.not_eq_true', Bool.not_eq_false'] at hc1
  have h240 : 240 ≤ s.length := by omega
  refine CW.skip (Q.tn ?_)
  refine CW.seq ?_
  refine CW.region ?_
  refine W.al rfl rfl fun b2 => ?_
  refine WL.nil (Q.tn ?_)
  refine CW.seq ?_
  refine CW.region ?_
  refine W.al rfl rfl fun b3 => ?_
  first | refine W.st (vt rfl) (vt rfl) rfl ?_ | refine W.st (u := .int _ _) (vt rfl) (vt rfl) rfl ?_
  refine WL.nil (Q.tn ?_)
  refine CW.seq ?_
  refine CW.region ?_
  refine W.p O.mv ?_
  refine W.p (O.bd (hv := PV.cons (vt rfl) (PV.nil))) ?_
  refine W.bx rfl (vt rfl) rfl fun b4 => ?_
  refine W.p O.as ?_
  refine WL.nil (Q.tn ?_)
  refine CW.seq ?_
  refine CW.seq ?_
  refine CW.region ?_
  refine W.callN (first := []) (cap := []) rfl (vt rfl) (AV.cons (vt rfl) (AV.cons (vt rfl) (AV.nil))) (fun w hu => pk_fields _ _ w) ?_; rintro _ _ ⟨o11, c11, sp11, rfl, ok11, rfl⟩; have nk11 := ok11.nk
  refine W.p O.lenL ?_
  refine W.p O.mv ?_
  refine WL.nil (Q.tn ?_)
  refine CW.block ?_
  refine CW.loop (X := Int × (List Int) × TS) (fun ⟨i, vs, t⟩ => [(0, true, .string (S s)), (2, true, .pointer (some ⟨b1, 0, none⟩)), (4, true, .pointer (some ⟨b2, 0, none⟩)), (5, true, .pointer (some ⟨b3, 0, none⟩)), (6, true, .pointer (some ⟨b4, 0, none⟩)), (24, true, .slice (oa o11) 11 c11), (25, true, .int .i64 11), (26, true, .int .i64 i)]) (fun ⟨i, vs, t⟩ => rowL o11 168 (flat encF (fieldsL b2 b3) sp11) ++ (TkO b4 s t :: pkH b2 b3 vs [(b1, .cells (pkC [0, 0, 0, 0, 0, 0, 0, 0, 0, 0, 0]).toArray 72 (0, 0))])) (fun ⟨i, vs, t⟩ => 0 ≤ i ∧ i ≤ 11 ∧ vs.length = 11 ∧ vs = (vsG s).take i.toNat ++ List.replicate (11 - i.toNat) 0 ∧ t = ⟨OFF.getD i.toNat 0, false⟩) (fun ⟨i, vs, t⟩ => (11 - i).toNat) (0, [0, 0, 0, 0, 0, 0, 0, 0, 0, 0, 0], ⟨0, false⟩) ?_ (by repeat (first | exact trivial | refine ⟨rfl, ?_⟩ | refine ⟨by (simp only [List.length_set]; rfl), ?_⟩)) (by repeat (first | exact List.Sublist.refl _ | exact List.sublist_append_left _ _ | exact List.nil_sublist _ | refine List.Sublist.append (List.Sublist.refl _) ?_ | apply List.Sublist.cons_cons | apply List.Sublist.cons | refine List.Sublist.trans ?_ (List.sublist_append_right _ _))) ?_
  · exact ⟨by omega, by omega, rfl, rfl, rfl⟩
  rintro ⟨i, vs, t⟩ hI
  try dsimp only at hI ⊢
  obtain ⟨h0, h1, hvl, hvs, ht⟩ := hI
  refine CW.seq ?_
  refine CW.region ?_
  refine W.p O.lss ?_
  refine WL.nil (Q.tn ?_)
  refine CW.seq ?_
  refine CW.cond (vt rfl) (fun hc2 => ?_) (fun hc2 => ?_)
  · try simp only [Bool.cond_true_left, Bool.cond_false_right, Bool.or_eq_true, Bool.or_eq_false_iff, Bool.and_eq_true, Bool.and_eq_false_iff, decide_eq_true_eq, decide_eq_false_iff_not, Bool.not_eq_true', Bool.not_eq_false'] at hc2
    have hf := fields_at b2 b3 h0 hc2
    have hoff := off_at s h0 hc2
    have hkk : tNum IntKind.i64.wrap s ((fieldsL b2 b3).getD i.toNat dF).2 t = ((vsG s).getD i.toNat 0, ⟨OFF.getD (i + 1).toNat 0, false⟩) := by rw [hf.1, hoff.2.1, hoff.2.2.2.2]; rcases tNum_ok wr_in hs47 (s := s) hoff.1 (t := t) (fun _ => by rw [ht]; exact hoff.2.2.1) with ⟨_, b⟩ | ⟨_, _, c⟩; (exfalso; rw [ht] at b; rcases b with b | b; cases b; dsimp only at b; omega); (rw [c, ht])
    refine CW.skip (Q.tn ?_)
    refine CW.seq ?_
    refine CW.block ?_
    refine CW.seq ?_
    refine CW.region ?_
    refine W.p O.ixA ?_
    refine W.p O.ldsE ?_
    refine W.al rfl rfl fun b5 => ?_
    refine W.st (vt rfl) (vt rfl) rfl ?_
    refine WL.nil (Q.tn ?_)
    refine CW.drawH [(b5, .cells (encF ((fieldsL b2 b3).getD i.toNat dF)).toArray 168 (0, 0))] rfl ?_
    first | refine RH.q 0 (fun _ _ _ h => h) rfl (by kernel_rfl) (by repeat (first | exact List.nil_sublist _ | exact List.Sublist.refl _ | exact List.sublist_append_left _ _ | exact List.sublist_append_right _ _ | apply List.Sublist.cons_cons | apply List.Sublist.cons | refine List.Sublist.trans ?_ (List.sublist_append_right _ _))) (O.fb) ?_ | refine RH.q 0 (fun _ _ _ h => h) rfl (by kernel_rfl) (by repeat (first | exact List.nil_sublist _ | exact List.Sublist.refl _ | exact List.sublist_append_left _ _ | exact List.sublist_append_right _ _ | apply List.Sublist.cons_cons | apply List.Sublist.cons | refine List.Sublist.trans ?_ (List.sublist_append_right _ _))) (O.fa) ?_
    refine RH.q 1 (fun _ _ _ h => h) rfl (by kernel_rfl) (by repeat (first | exact List.nil_sublist _ | exact List.Sublist.refl _ | exact List.sublist_append_left _ _ | exact List.sublist_append_right _ _ | apply List.Sublist.cons_cons | apply List.Sublist.cons | refine List.Sublist.trans ?_ (List.sublist_append_right _ _))) (O.ld) ?_
    refine RH.q 2 (fun _ _ _ h => h) rfl (by kernel_rfl) (by repeat (first | exact List.nil_sublist _ | exact List.Sublist.refl _ | exact List.sublist_append_left _ _ | exact List.sublist_append_right _ _ | apply List.Sublist.cons_cons | apply List.Sublist.cons | refine List.Sublist.trans ?_ (List.sublist_append_right _ _))) (O.mv) ?_
    first | refine RH.q 3 (fun _ _ _ h => h) rfl (by kernel_rfl) (by repeat (first | exact List.nil_sublist _ | exact List.Sublist.refl _ | exact List.sublist_append_left _ _ | exact List.sublist_append_right _ _ | apply List.Sublist.cons_cons | apply List.Sublist.cons | refine List.Sublist.trans ?_ (List.sublist_append_right _ _))) (O.fb) ?_ | refine RH.q 3 (fun _ _ _ h => h) rfl (by kernel_rfl) (by repeat (first | exact List.nil_sublist _ | exact List.Sublist.refl _ | exact List.sublist_append_left _ _ | exact List.sublist_append_right _ _ | apply List.Sublist.cons_cons | apply List.Sublist.cons | refine List.Sublist.trans ?_ (List.sublist_append_right _ _))) (O.fa) ?_
    refine RH.q 4 (fun _ _ _ h => h) rfl (by kernel_rfl) (by repeat (first | exact List.nil_sublist _ | exact List.Sublist.refl _ | exact List.sublist_append_left _ _ | exact List.sublist_append_right _ _ | apply List.Sublist.cons_cons | apply List.Sublist.cons | refine List.Sublist.trans ?_ (List.sublist_append_right _ _))) (O.ld) ?_
    refine RH.one (i := 5) (fun _ _ h => h) (by kernel_rfl) rfl ?_
    refine W.callS (first := []) (cap := []) (TkH b4 s t) rfl (vt rfl) (AV.cons (vt rfl) (AV.cons (vt rfl) (AV.nil))) (fun w hu hh => tk_Num ((fieldsL b2 b3).getD i.toNat dF).2 w hh hs47) ?_; rintro _ _ ⟨rfl, rfl⟩
    refine WL.nilQn ⟨(by repeat (first | exact List.nil_sublist _ | exact List.Sublist.refl _ | exact List.sublist_append_left _ _ | exact List.sublist_append_right _ _ | apply List.Sublist.cons_cons | apply List.Sublist.cons | refine List.Sublist.trans ?_ (List.sublist_append_right _ _))), ?_⟩
    refine RH.q 6 (fun _ _ _ h => h) rfl (by kernel_rfl) (by repeat (first | exact List.nil_sublist _ | exact List.Sublist.refl _ | exact List.sublist_append_left _ _ | exact List.sublist_append_right _ _ | apply List.Sublist.cons_cons | apply List.Sublist.cons | refine List.Sublist.trans ?_ (List.sublist_append_right _ _))) (O.nc) ?_
    refine RH.one (i := 7) (fun _ _ h => h) (by kernel_rfl) rfl ?_
    refine W.stF (b := b2) (l := b3) hvl h0 hc2 (vt rfl) (vt rfl) ?_
    refine WL.nilQn ⟨(by repeat (first | exact List.nil_sublist _ | exact List.Sublist.refl _ | exact List.sublist_append_left _ _ | exact List.sublist_append_right _ _ | apply List.Sublist.cons_cons | apply List.Sublist.cons | refine List.Sublist.trans ?_ (List.sublist_append_right _ _))), ?_⟩
    refine RH.done (by kernel_rfl) (Q.bn (Q.tn ?_))
    refine CW.region ?_
    first | refine W.p O.addN ?_ | refine W.p O.add ?_
    refine W.p O.mv ?_
    refine WL.nil (Q.tn ?_)
    refine ⟨(i + 1, vs.set i.toNat (tNum IntKind.i64.wrap s ((fieldsL b2 b3).getD i.toNat dF).2 t).1, (tNum IntKind.i64.wrap s ((fieldsL b2 b3).getD i.toNat dF).2 t).2), ?_, ?_, (by repeat (first | exact trivial | refine ⟨rfl, ?_⟩ | refine ⟨by (simp only [List.length_set]; rfl), ?_⟩)), (by repeat (first | exact List.Sublist.refl _ | exact List.sublist_append_left _ _ | exact List.nil_sublist _ | refine List.Sublist.append (List.Sublist.refl _) ?_ | apply List.Sublist.cons_cons | apply List.Sublist.cons | refine List.Sublist.trans ?_ (List.sublist_append_right _ _)))⟩
    · try dsimp only
      rw [hkk]
      exact ⟨by omega, by omega, by rw [List.length_set]; exact hvl, vs_set h0 (by simpa [vsG] using hc2) rfl hvs, rfl⟩
    · try dsimp only
      omega
  try simp only [Bool.cond_true_left, Bool.cond_false_right, Bool.or_eq_true, Bool.or_eq_false_iff, Bool.and_eq_true, Bool.and_eq_false_iff, decide_eq_true_eq, decide_eq_false_iff_not, Bool.not_eq_true', Bool.not_eq_false'] at hc2
  obtain rfl : i = 11 := by omega
  obtain rfl : vs = vsG s := by rw [hvs]; rfl
  obtain rfl : t = ⟨28, false⟩ := ht
  refine CW.exit (Q.te (Q.te (Q.bx (Q.tn ?_))))
  refine CW.seq ?_
  refine CW.region ?_
  refine W.p O.mv ?_
  refine W.callN (first := []) (cap := []) rfl (vt rfl) (AV.cons (vt rfl) (AV.nil)) (fun w hu => pk_parts s w h240 hs) ?_; rintro _ _ ⟨o12, c12, sp12, rfl, ok12, rfl⟩; have nk12 := ok12.nk
  refine W.p O.mv ?_
  first | refine W.p O.extL ?_ | refine W.p O.ext ?_
  first | refine W.p O.extL ?_ | refine W.p O.ext ?_
  refine W.p O.as ?_
  refine W.p O.as ?_
  refine WL.nil (Q.tn ?_)
  refine CW.seq ?_
  refine CW.seq ?_
  refine CW.region ?_
  refine W.p O.ld ?_
  refine W.p O.gtr ?_
  refine W.p O.mv ?_
  refine W.p O.mv ?_
  refine W.p O.nt ?_
  refine W.p O.pkB ?_
  refine WL.nil (Q.tn ?_)
  refine CW.cond (vt rfl) (fun hc3 => ?_) (fun hc3 => ?_)
  · try simp only [Bool.cond_true_left, Bool.cond_false_right, Bool.or_eq_true, Bool.or_eq_false_iff, Bool.and_eq_true, Bool.and_eq_false_iff, decide_eq_true_eq, decide_eq_false_iff_not, Bool.not_eq_true', Bool.not_eq_false'] at hc3
    refine CW.seq ?_
    refine CW.region ?_
    refine W.p (O.bd (hv := PV.nil)) ?_
    refine W.st (vt rfl) (vt rfl) rfl ?_
    refine W.p O.as ?_
    refine WL.nil (Q.tn ?_)
    refine CW.ret (Q.tr ?_)
    refine ⟨_, [], (RVs.cell rfl (RVs.tmp rfl RVs.nil)), List.nil_sublist _, ?_⟩
    rw [pkGet, if_neg (show ¬ (s.length < 240 ∨ slc s 236 240 ≠ cookieB) by rintro (h | h); omega; exact h hc1.2), if_pos (show 16 < nmS s 2 3 ∨ (ptR s).2 = false from hc3)]
    exact ⟨none, 0, [], rfl, OwnOk.nil, rfl⟩
  try simp only [Bool.cond_true_left, Bool.cond_false_right, Bool.or_eq_true, Bool.or_eq_false_iff, Bool.and_eq_true, Bool.and_eq_false_iff, decide_eq_true_eq, decide_eq_false_iff_not, Bool.not_eq_true', Bool.not_eq_false'] at hc3
  refine CW.skip (Q.tn ?_)
  refine CW.seq ?_
  refine CW.region ?_
  refine W.p O.mv ?_
  refine W.p O.ld ?_
  refine W.callS (first := []) (cap := []) (TkH b4 s ⟨28, false⟩) rfl (vt rfl) (AV.cons (vt rfl) (AV.cons (vt rfl) (AV.nil))) (fun w hu hh => tk_Some (nmS s 2 3) w hh hs47 (fun _ => by dsimp only; omega) (by omega)) ?_; rintro _ _ ⟨rfl, rfl⟩
  refine W.p O.mv ?_
  first | refine W.p O.fb ?_ | refine W.p O.fa ?_
  first | refine W.st (vt rfl) (vt rfl) rfl ?_ | refine W.st (u := .string _) (vt rfl) (vt rfl) rfl ?_
  first | refine W.p O.fb ?_ | refine W.p O.fa ?_
  first | refine W.st (vt rfl) (vt rfl) rfl ?_ | refine W.st (u := .slice _ _ _) (vt rfl) (vt rfl) rfl ?_
  refine WL.nil (Q.tn ?_)
  refine CW.seq ?_
  refine CW.region ?_
  refine W.p O.lds ?_
  refine W.st (vt rfl) (vt rfl) rfl ?_
  refine W.p O.as ?_
  refine WL.nil (Q.tn ?_)
  refine CW.ret ?_
  refine ⟨_, rowL o12 42 (flat encO (ptR s).1 sp12), (RVs.cell rfl (RVs.tmp rfl RVs.nil)), (by repeat (first | exact List.Sublist.refl _ | exact hSub _ | exact List.sublist_append_left _ _ | exact List.nil_sublist _ | refine List.Sublist.append (List.Sublist.refl _) ?_ | apply List.Sublist.cons_cons | apply List.Sublist.cons | exact List.sublist_append_left _ _ | refine List.Sublist.trans ?_ (List.sublist_append_right _ _))), ?_⟩
  have hS : tSome s (nmS s 2 3) ⟨28, false⟩ = (slc s 28 (28 + nmS s 2 3), ⟨28 + nmS s 2 3, false⟩) := by rw [tSome, if_neg (by rintro (h | h); cases h; dsimp only at h; have := hc3.1; change ¬ 16 < nmS s 2 3 at this; omega)]
  rw [pkGet, if_neg (show ¬ (s.length < 240 ∨ slc s 236 240 ≠ cookieB) by rintro (h | h); omega; exact h hc1.2), if_neg (show ¬ (16 < nmS s 2 3 ∨ (ptR s).2 = false) by rintro (h | h); exact hc3.1 h; rw [hc3.2] at h; cases h), hS]
  exact ⟨o12, c12, sp12, rfl, ok12, rfl⟩
end Go.Proofs.Ytkjcmdgideddnaa

set_option linter.unusedVariables false
set_option linter.unusedSimpArgs false
namespace Go.Proofs.Ytkjcmdgideddnaa
open Go Go.RowKit
set_option maxRecDepth 100000 in
theorem samePacket (p q : Pkt) (a b : Option Addr) (c c' : Nat) (w : World) (h : In w a (p.opts.flatMap encO)) (h' : In w b (q.opts.flatMap encO)) (hn : p.opts.length ≤ 1000000000) : Fn Try.prog 61 [vPk p a c, vPk q b c'] w [] fun v L' => v = .bool (decide (p = q)) ∧ L' = [] := by
  have row := Row.ofE h
  have row' := Row.ofE h'
  refine Fn.enter Try.func61 rfl rfl rfl rfl (Holds.nil w) ?_
  refine CW.seq ?_
  refine CW.region ?_
  refine W.bx rfl (vt rfl) rfl fun b1 => ?_
  refine W.bx rfl (vt rfl) rfl fun b2 => ?_
  refine W.p O.as ?_
  refine WL.nil (Q.tn ?_)
  refine CW.seq ?_
  refine CW.region ?_
  first | refine W.p O.fb ?_ | refine W.p O.fa ?_
  refine W.p O.ld ?_
  first | refine W.p O.fb ?_ | refine W.p O.fa ?_
  refine W.p O.ld ?_
  refine W.p O.eqI ?_
  refine W.p O.mv ?_
  first | refine W.p O.fb ?_ | refine W.p O.fa ?_
  refine W.p O.ld ?_
  first | refine W.p O.fb ?_ | refine W.p O.fa ?_
  refine W.p O.ld ?_
  refine W.p O.eqI ?_
  refine W.p O.pkB ?_
  refine W.p O.mv ?_
  first | refine W.p O.fb ?_ | refine W.p O.fa ?_
  refine W.p O.ld ?_
  first | refine W.p O.fb ?_ | refine W.p O.fa ?_
  refine W.p O.ld ?_
  refine W.p O.eqI ?_
  refine W.p O.pkB ?_
  refine W.p O.mv ?_
  first | refine W.p O.fb ?_ | refine W.p O.fa ?_
  refine W.p O.ld ?_
  first | refine W.p O.fb ?_ | refine W.p O.fa ?_
  refine W.p O.ld ?_
  refine W.p O.eqI ?_
  refine W.p O.pkB ?_
  refine W.p O.mv ?_
  first | refine W.p O.fb ?_ | refine W.p O.fa ?_
  refine W.p O.ld ?_
  first | refine W.p O.fb ?_ | refine W.p O.fa ?_
  refine W.p O.ld ?_
  refine W.p O.eqI ?_
  refine W.p O.pkB ?_
  refine W.p O.mv ?_
  first | refine W.p O.fb ?_ | refine W.p O.fa ?_
  refine W.p O.ld ?_
  first | refine W.p O.fb ?_ | refine W.p O.fa ?_
  refine W.p O.ld ?_
  refine W.p O.eqI ?_
  refine W.p O.pkB ?_
  refine W.p O.mv ?_
  first | refine W.p O.fb ?_ | refine W.p O.fa ?_
  refine W.p O.ld ?_
  first | refine W.p O.fb ?_ | refine W.p O.fa ?_
  refine W.p O.ld ?_
  refine W.p O.eqI ?_
  refine W.p O.pkB ?_
  refine W.p O.mv ?_
  first | refine W.p O.fb ?_ | refine W.p O.fa ?_
  refine W.p O.ld ?_
  first | refine W.p O.fb ?_ | refine W.p O.fa ?_
  refine W.p O.ld ?_
  refine W.p O.eqI ?_
  refine W.p O.pkB ?_
  refine W.p O.mv ?_
  first | refine W.p O.fb ?_ | refine W.p O.fa ?_
  refine W.p O.ld ?_
  first | refine W.p O.fb ?_ | refine W.p O.fa ?_
  refine W.p O.ld ?_
  refine W.p O.eqI ?_
  refine W.p O.pkB ?_
  refine W.p O.mv ?_
  first | refine W.p O.fb ?_ | refine W.p O.fa ?_
  refine W.p O.ld ?_
  first | refine W.p O.fb ?_ | refine W.p O.fa ?_
  refine W.p O.ld ?_
  refine W.p O.eqI ?_
  refine W.p O.pkB ?_
  refine W.p O.mv ?_
  first | refine W.p O.fb ?_ | refine W.p O.fa ?_
  refine W.p O.ld ?_
  first | refine W.p O.fb ?_ | refine W.p O.fa ?_
  refine W.p O.ld ?_
  refine W.p O.eqS ?_
  refine W.p O.pkB ?_
  refine W.p O.mv ?_
  first | refine W.p O.fb ?_ | refine W.p O.fa ?_
  refine W.p O.ld ?_
  first | refine W.p O.fb ?_ | refine W.p O.fa ?_
  refine W.p O.ld ?_
  refine W.q (O.call ⟨rfl, rfl⟩ (AV.cons (vs rfl) (AV.cons (vs rfl) (AV.nil))) (fun _ w hw => sameOptions _ _ _ _ _ _ w (row.h _ w hw) (row'.h _ w hw) hn)) ?_
  refine W.p O.pkB ?_
  refine W.p O.as ?_
  refine WL.nil (Q.tn ?_)
  refine CW.ret ?_
  refine ⟨_, [], (RVs.tmp rfl RVs.nil), List.nil_sublist _, ?_⟩
  refine ⟨congrArg Value.bool ?_, rfl⟩
  obtain ⟨a1, a2, a3, a4, a5, a6, a7, a8, a9, a10, a11, a12⟩ := p
  obtain ⟨b1, b2, b3, b4, b5, b6, b7, b8, b9, b10, b11, b12⟩ := q
  have hS : ∀ l : List UInt8, (S l).data.toList = l := fun _ => rfl
  rw [Bool.eq_iff_iff]
  simp [hS, and_assoc]
set_option maxRecDepth 100000 in
theorem copyPacket (p : Pkt) (a : Option Addr) (c : Nat) (w : World) (h : In w a (p.opts.flatMap encO)) (hn : p.opts.length ≤ 1000000000) : Fn Try.prog 56 [vPk p a c] w [] fun v L' => ∃ o c' sp, v = vPk p (oa o) c' ∧ OwnOk o c' 2 p.opts.length (List.length sp) ∧ L' = rowL o 42 (flat encO p.opts sp) := by
  have row := Row.ofE h
  refine Fn.enter Try.func56 rfl rfl rfl rfl (Holds.nil w) ?_
  refine CW.seq ?_
  refine CW.region ?_
  refine W.bx rfl (vt rfl) rfl fun b1 => ?_
  refine W.al rfl rfl fun b2 => ?_
  refine WL.nil (Q.tn ?_)
  refine CW.seq ?_
  refine CW.region ?_
  refine W.bs0 encO rfl fun b3 => ?_
  first | refine W.p O.fb ?_ | refine W.p O.fa ?_
  refine W.p O.ld ?_
  refine W.ap rfl (vt rfl) (vt rfl) (by first | rfl | omega) (by first | rfl | omega) rfl (by first | assumption | exact OwnOk.nil | exact OwnOk.lit) (by first | omega | (simp; omega)) fun o1 c1 sp1 ok1 ne1 gt1 => ?_
  have nk1 := ok1.nk; have le1 := ok1.2.2.1; try simp only [List.length_append, List.length_cons, List.length_nil] at le1
  first | refine W.p O.fb ?_ | refine W.p O.fa ?_
  first | refine W.st (vt rfl) (vt rfl) rfl ?_ | refine W.st (u := .slice _ _ _) (vt rfl) (vt rfl) rfl ?_
  refine WL.nil (Q.tn ?_)
  refine CW.seq ?_
  refine CW.region ?_
  refine W.p O.lds ?_
  refine W.st (vt rfl) (vt rfl) rfl ?_
  refine WL.nil (Q.tn ?_)
  refine CW.ret ?_
  refine ⟨_, rowL o1 42 (flat encO p.opts sp1), (RVs.cell rfl RVs.nil), (by repeat (first | exact List.Sublist.refl _ | exact hSub _ | exact List.sublist_append_left _ _ | exact List.nil_sublist _ | refine List.Sublist.append (List.Sublist.refl _) ?_ | apply List.Sublist.cons_cons | apply List.Sublist.cons | exact List.sublist_append_left _ _ | refine List.Sublist.trans ?_ (List.sublist_append_right _ _))), ?_⟩
  exact ⟨o1, c1, sp1, rfl, ok1, rfl⟩
end Go.Proofs.Ytkjcmdgideddnaa
