/- What the document's reading of acts comes to. Conditions: the text is not longer than a million. -/
import Derived.Test.YtagiajnpnjakhaaDoorScE
import Derived.Test.YtagiajnpnjakhaaDoorScR
set_option linter.unusedVariables false
set_option linter.unusedSimpArgs false
namespace Go.Proofs.YtagiajnpnjakhaaDoor
open Go Go.RowKit
abbrev TkO (b : Nat) (s : List UInt8) (a : Int) (bad : Bool) : Nat × Obj := (b, .cells #[.string (S s), .int .i64 a, .bool bad] 106 (0, 0))
set_option maxRecDepth 100000 in
theorem tk_digits (b : Nat) (s : List UInt8) (a : Int) (bad : Bool) (w : World) (hL : Holds [TkO b s a bad] w) (ha : 0 ≤ a ∧ a ≤ 1099511627776) (hn : s.length ≤ 1048576) :
    Fn Tryd.prog 69 [.pointer (some ⟨b, 0, none⟩)] w [TkO b s a bad] fun v L' => ∃ k x, v = .int .i64 x ∧ DgF s a k x ∧ L' = [TkO b s (a + k + 1) (bad || decide (s.length ≤ a + k))] := by
  refine Fn.enter Tryd.func69 rfl rfl rfl rfl hL ?_
  refine CW.seq ?_
  refine CW.region ?_
  refine W.p O.as ?_
  refine WL.nil (Q.tn ?_)
  refine CW.seq ?_
  refine CW.region ?_
  refine W.p O.as ?_
  refine WL.nil (Q.tn ?_)
  refine CW.seq ?_
  refine CW.seq ?_
  refine CW.region ?_
  refine W.p O.as ?_
  refine WL.nil (Q.tn ?_)
  refine CW.block ?_
  refine CW.loopA (X := Int × Int × Int) (fun ⟨k, x, p⟩ => [(0, true, .pointer (some ⟨b, 0, none⟩)), (3, true, .int .i64 x), (4, true, .int .i64 k)]) (fun ⟨k, x, p⟩ => [TkO b s p bad]) (fun ⟨k, x, p⟩ => DgI s a k x ∧ p = a + k) (fun ⟨k, x, p⟩ => (8 - k).toNat) (0, 0, a) ?_ ?_
  · exact ⟨DgI.new s a, by omega⟩
  rintro ⟨k, x, p⟩ hI
  try dsimp only at hI ⊢
  obtain ⟨hI, rfl⟩ := hI
  have k0 := hI.k0; have k8 := hI.k8; have hxb := hI.bound
  refine CW.seq ?_
  refine CW.seq ?_
  refine CW.draw 38 rfl (by kernel_rfl) ?_
  refine WQ.p O.mv ?_
  refine WQ.p O.lss ?_
  refine WQ.p O.mv ?_
  refine WQ.p O.mv ?_
  refine WQ.p O.nc ?_
  first | refine WQ.p O.fb ?_ | refine WQ.p O.fa ?_
  refine WQ.p O.ld ?_
  refine WQ.p O.mv ?_
  refine WQ.p O.nc ?_
  first | refine WQ.p O.fb ?_ | refine WQ.p O.fa ?_
  refine WQ.p O.ld ?_
  refine WQ.p O.len ?_
  refine WQ.p O.lss ?_
  refine WQ.p O.pkB ?_
  refine WQ.p O.mv ?_
  refine WQ.p O.mv ?_
  refine WQ.p O.nc ?_
  first | refine WQ.p O.fb ?_ | refine WQ.p O.fa ?_
  refine WQ.p O.ld ?_
  refine WQ.p O.mv ?_
  refine WQ.p O.nc ?_
  first | refine WQ.p O.fb ?_ | refine WQ.p O.fa ?_
  refine WQ.p O.ld ?_
  first | refine WQ.p O.idxS ?_ | refine WQ.p (O.idxS (h := fun hg => by simp only [cond_true, cond_false, Bool.true_and, Bool.cond_false_right, Bool.cond_true_left, Bool.and_eq_true, Bool.or_eq_true, Bool.or_eq_false_iff, Bool.and_eq_false_iff, Bool.not_eq_true', Bool.not_eq_false', decide_eq_true_eq, decide_eq_false_iff_not, Int.reduceToNat] at *; omega)) ?_
  refine WQ.p O.geq ?_
  refine WQ.p O.pkB ?_
  refine WQ.p O.mv ?_
  refine WQ.p O.mv ?_
  refine WQ.p O.nc ?_
  first | refine WQ.p O.fb ?_ | refine WQ.p O.fa ?_
  refine WQ.p O.ld ?_
  refine WQ.p O.mv ?_
  refine WQ.p O.nc ?_
  first | refine WQ.p O.fb ?_ | refine WQ.p O.fa ?_
  refine WQ.p O.ld ?_
  first | refine WQ.p O.idxS ?_ | refine WQ.p (O.idxS (h := fun hg => by simp only [cond_true, cond_false, Bool.true_and, Bool.cond_false_right, Bool.cond_true_left, Bool.and_eq_true, Bool.or_eq_true, Bool.or_eq_false_iff, Bool.and_eq_false_iff, Bool.not_eq_true', Bool.not_eq_false', decide_eq_true_eq, decide_eq_false_iff_not, Int.reduceToNat] at *; omega)) ?_
  refine WQ.p O.leq ?_
  refine WQ.p O.pkB ?_
  refine WQ.nil ?_
  refine WL.nil (Q.tn ?_)
  refine CW.cond (vt rfl) (fun hc1 => ?_) (fun hc1 => ?_)
  · try simp only [sk] at hc1
    have u8 := (s.getD (a + k).toNat 0).toNat_lt
    have w1 : IntKind.u8.wrap (((s.getD (a + k).toNat 0).toNat : Int) - 48) = ((s.getD (a + k).toNat 0).toNat : Int) - 48 := by have e : IntKind.u8.wrap (((s.getD (a + k).toNat 0).toNat : Int) - 48) = (((s.getD (a + k).toNat 0).toNat : Int) - 48) % 256 := rfl; omega
    have w2 : IntKind.i64.wrap (((s.getD (a + k).toNat 0).toNat : Int) - 48) = ((s.getD (a + k).toNat 0).toNat : Int) - 48 := wrap_in _ (by omega)
    refine CW.skip (Q.tn ?_)
    refine CW.seq ?_
    refine CW.block ?_
    refine CW.seq ?_
    refine CW.draw 14 rfl (by kernel_rfl) ?_
    refine WQ.p O.mv ?_
    first | refine WQ.p O.mulN ?_ | refine WQ.p O.mul ?_
    refine WQ.p O.mv ?_
    refine WQ.p O.nc ?_
    first | refine WQ.p O.fb ?_ | refine WQ.p O.fa ?_
    refine WQ.p O.ld ?_
    refine WQ.p O.mv ?_
    refine WQ.p O.nc ?_
    first | refine WQ.p O.fb ?_ | refine WQ.p O.fa ?_
    refine WQ.p O.ld ?_
    first | refine WQ.p O.idxS ?_ | refine WQ.p (O.idxS (h := fun hg => by simp only [cond_true, cond_false, Bool.true_and, Bool.cond_false_right, Bool.cond_true_left, Bool.and_eq_true, Bool.or_eq_true, Bool.or_eq_false_iff, Bool.and_eq_false_iff, Bool.not_eq_true', Bool.not_eq_false', decide_eq_true_eq, decide_eq_false_iff_not, Int.reduceToNat] at *; omega)) ?_
    refine WQ.p O.sub ?_
    first | refine WQ.p O.cvB ?_ | refine WQ.p O.cv ?_
    first | refine WQ.p O.addN ?_ | refine WQ.p O.add ?_
    refine WQ.nil ?_
    refine W.p O.as ?_
    refine WL.nil (Q.tn ?_)
    refine CW.region ?_
    refine W.p O.mv ?_
    refine W.p O.nc ?_
    first | refine W.p O.fb ?_ | refine W.p O.fa ?_
    refine W.p O.ld ?_
    first | refine W.p O.addN ?_ | refine W.p O.add ?_
    refine W.p O.nc ?_
    first | refine W.p O.fb ?_ | refine W.p O.fa ?_
    first | refine W.st (vt rfl) (vt rfl) rfl ?_ | refine W.st (u := .int _ _) (vt rfl) (vt rfl) rfl ?_
    refine WL.nil (Q.bn (Q.tn ?_))
    refine CW.region ?_
    refine W.p O.mv ?_
    first | refine W.p O.addN ?_ | refine W.p O.add ?_
    refine W.p O.as ?_
    refine WL.nil (Q.tn ?_)
    refine nextA (_, _, _) ?_ ?_
    · try dsimp only
      refine ⟨Eq.mp (congrArg (DgI s a (k + 1)) ?_) (hI.step ha.1 (by omega) (by omega) (by omega) (by omega)), by omega⟩
      rw [w1, w2]; show _ = IntKind.i64.wrap (10 * x + (((s.getD (a + k).toNat 0).toNat : Int) - 48)); rw [wrap_in _ (by omega)]; omega
    · try dsimp only
      omega
  try simp only [sk] at hc1
  refine CW.exit (Q.te (Q.te (Q.bx (Q.tn ?_))))
  refine CW.seq ?_
  refine CW.draw 19 rfl (by kernel_rfl) ?_
  refine WQ.p O.mv ?_
  refine WQ.p O.mv ?_
  refine WQ.p O.nc ?_
  first | refine WQ.p O.fb ?_ | refine WQ.p O.fa ?_
  refine WQ.p O.ld ?_
  refine WQ.p O.mv ?_
  refine WQ.p O.mv ?_
  refine WQ.p O.nc ?_
  first | refine WQ.p O.fb ?_ | refine WQ.p O.fa ?_
  refine WQ.p O.ld ?_
  refine WQ.p O.mv ?_
  refine WQ.p O.nc ?_
  first | refine WQ.p O.fb ?_ | refine WQ.p O.fa ?_
  refine WQ.p O.ld ?_
  refine WQ.p O.len ?_
  refine WQ.p O.geq ?_
  refine WQ.p O.pkB ?_
  refine WQ.p O.nc ?_
  first | refine WQ.p O.fb ?_ | refine WQ.p O.fa ?_
  refine WQ.nil ?_
  refine W.st (vt rfl) (vt rfl) rfl ?_
  refine WL.nil (Q.tn ?_)
  refine CW.seq ?_
  refine CW.region ?_
  refine W.p O.mv ?_
  refine W.p O.nc ?_
  first | refine W.p O.fb ?_ | refine W.p O.fa ?_
  refine W.p O.ld ?_
  first | refine W.p O.addN ?_ | refine W.p O.add ?_
  refine W.p O.nc ?_
  first | refine W.p O.fb ?_ | refine W.p O.fa ?_
  first | refine W.st (vt rfl) (vt rfl) rfl ?_ | refine W.st (u := .int _ _) (vt rfl) (vt rfl) rfl ?_
  refine WL.nil (Q.tn ?_)
  refine CW.seq ?_
  refine CW.region ?_
  refine W.p O.mv ?_
  refine W.p O.as ?_
  refine WL.nil (Q.tn ?_)
  refine CW.ret ?_
  refine ⟨_, _, (RVs.tmp rfl RVs.nil), List.Sublist.refl _, ?_⟩
  refine ⟨k, x, rfl, ⟨hI, ?_⟩, ?_⟩
  · omega
  · cases bad <;> simp
theorem WL.permS {P : Program} {n : Nat} {w0 : World} {L0 L L' : Heap} {all rest : List Oper} {E : Env} {Q : Post} (hp : L.Perm L') (h : WL P n w0 L0 all rest E L' Q) : WL P n w0 L0 all rest E L Q := fun a w ha hw => h a w ha (hw.perm hp.symm)
/-- what is taken of a text -/
def TxR (s : List UInt8) (a k : Int) (tx : List UInt8) (a2 : Int) (bd : Bool) : Prop := (k ≤ s.length - a ∧ tx = (s.drop a.toNat).take k.toNat ∧ a2 = a + k ∧ bd = false) ∨ (s.length - a < k ∧ tx = [] ∧ a2 = a ∧ bd = true)
set_option maxRecDepth 100000 in
theorem tk_text (b : Nat) (s : List UInt8) (a : Int) (bad : Bool) (k : Int) (w : World) (hL : Holds [TkO b s a bad] w) (hb : bad = false) (ha : 0 ≤ a ∧ a ≤ 1099511627776) (hk : 0 ≤ k ∧ k ≤ 99999999) (hn : s.length ≤ 1048576) :
    Fn Tryd.prog 70 [.pointer (some ⟨b, 0, none⟩), .int .i64 k] w [TkO b s a bad] fun v L' => ∃ tx a2 bd, v = .string (S tx) ∧ TxR s a k tx a2 bd ∧ L' = [TkO b s a2 bd] := by
  subst hb
  refine Fn.enter Tryd.func70 rfl rfl rfl rfl hL ?_
  refine CW.seq ?_
  refine CW.region ?_
  refine W.p O.as ?_
  refine WL.nil (Q.tn ?_)
  refine CW.seq ?_
  refine CW.seq ?_
  refine CW.draw 18 rfl (by kernel_rfl) ?_
  refine WQ.p O.mv ?_
  refine WQ.p O.nc ?_
  first | refine WQ.p O.fb ?_ | refine WQ.p O.fa ?_
  refine WQ.p O.ld ?_
  refine WQ.p O.mv ?_
  refine WQ.p O.mv ?_
  refine WQ.p O.mv ?_
  refine WQ.p O.nc ?_
  first | refine WQ.p O.fb ?_ | refine WQ.p O.fa ?_
  refine WQ.p O.ld ?_
  refine WQ.p O.len ?_
  refine WQ.p O.mv ?_
  refine WQ.p O.nc ?_
  first | refine WQ.p O.fb ?_ | refine WQ.p O.fa ?_
  refine WQ.p O.ld ?_
  first | refine WQ.p O.subN ?_ | refine WQ.p O.sub ?_
  refine WQ.p O.gtr ?_
  refine WQ.p O.pkB ?_
  refine WQ.nil ?_
  refine WL.nil (Q.tn ?_)
  refine CW.cond (vt rfl) (fun hc1 => ?_) (fun hc1 => ?_)
  · try simp only [sk] at hc1
    refine CW.seq ?_
    refine CW.region ?_
    refine W.p O.mv ?_
    refine W.p O.nc ?_
    first | refine W.p O.fb ?_ | refine W.p O.fa ?_
    refine W.st (vt rfl) (vt rfl) rfl ?_
    refine WL.nil (Q.tn ?_)
    refine CW.seq ?_
    refine CW.region ?_
    refine W.p O.as ?_
    refine WL.nil (Q.tn ?_)
    refine CW.ret (Q.tr ?_)
    refine ⟨_, _, (RVs.tmp rfl RVs.nil), List.Sublist.refl _, ?_⟩
    exact ⟨[], a, true, rfl, .inr ⟨by simpa using hc1, rfl, rfl, rfl⟩, rfl⟩
  try simp only [sk] at hc1
  refine CW.skip (Q.tn ?_)
  refine CW.seq ?_
  refine CW.region ?_
  refine W.p O.mv ?_
  refine W.p O.mv ?_
  refine W.p O.nc ?_
  first | refine W.p O.fb ?_ | refine W.p O.fa ?_
  refine W.p O.ld ?_
  refine W.p O.mv ?_
  first | refine W.p O.addN ?_ | refine W.p O.add ?_
  refine W.p O.nc ?_
  first | refine W.p O.fb ?_ | refine W.p O.fa ?_
  first | refine W.st (vt rfl) (vt rfl) rfl ?_ | refine W.st (u := .int _ _) (vt rfl) (vt rfl) rfl ?_
  refine WL.nil (Q.tn ?_)
  refine CW.seq ?_
  refine CW.draw 16 rfl (by kernel_rfl) ?_
  refine WQ.p O.mv ?_
  refine WQ.p O.nc ?_
  first | refine WQ.p O.fb ?_ | refine WQ.p O.fa ?_
  refine WQ.p O.ld ?_
  refine WQ.p O.mv ?_
  refine WQ.p O.nc ?_
  first | refine WQ.p O.fb ?_ | refine WQ.p O.fa ?_
  refine WQ.p O.ld ?_
  refine WQ.p O.mv ?_
  first | refine WQ.p O.subN ?_ | refine WQ.p O.sub ?_
  refine WQ.p O.mv ?_
  refine WQ.p O.nc ?_
  first | refine WQ.p O.fb ?_ | refine WQ.p O.fa ?_
  refine WQ.p O.ld ?_
  refine WQ.p O.slc ?_
  refine WQ.p O.as ?_
  refine WQ.nil ?_
  refine WL.nil (Q.tn ?_)
  refine CW.ret ?_
  refine ⟨_, _, (RVs.tmp rfl RVs.nil), List.Sublist.refl _, ?_⟩
  refine ⟨_, a + k, false, rfl, .inl ⟨by simpa using hc1, ?_, rfl, rfl⟩, rfl⟩
  rw [show (a + k - k).toNat = a.toNat by omega, show (a + k).toNat = a.toNat + k.toNat by omega, List.take_drop]
theorem as_snoc {out : List Ac} {x : Ac} (h : AsSz out) (hl : out.length ≤ 1000) (hx : x.text.length ≤ 1048576) : AsSz (out ++ [x]) := by
  refine ⟨by rw [List.length_append]; simp; omega, fun y hy => ?_⟩
  rcases List.mem_append.1 hy with hy | hy
  · exact h.ht y hy
  · simp only [List.mem_singleton] at hy; subst hy; exact hx
set_option maxRecDepth 100000 in
theorem ref_ParseActs (s : List UInt8) (w : World) (hn : s.length ≤ 1048576) : Fn Tryd.prog 34 [.string (S s)] w [] (PRes s) := by
  have hl4 : ([100, 113, 116, 99] : List UInt8).length = 4 := rfl
  refine Fn.enter Tryd.func34 rfl rfl rfl rfl (Holds.nil w) ?_
  refine CW.seq ?_
  refine CW.region ?_
  refine W.p O.as ?_
  refine W.p O.as ?_
  refine WL.nil (Q.tn ?_)
  refine CW.seq ?_
  refine CW.region ?_
  refine W.p O.as ?_
  refine WL.nil (Q.tn ?_)
  refine CW.seq ?_
  refine CW.region ?_
  refine W.p O.mv ?_
  refine W.p (O.bd (hv := PV.cons (vt rfl) (PV.nil))) ?_
  refine W.bx rfl (vt rfl) rfl fun b1 => ?_
  refine W.p O.as ?_
  refine WL.nil (Q.tn ?_)
  refine CW.seq ?_
  refine CW.block ?_
  refine CW.loopA (X := (List Ac) × (Option Nat) × Nat × (List Value) × Int × Bool) (fun ⟨out, o, ca, sp, a, bad⟩ => [(0, true, .string (S s)), (4, true, .slice (oa o) out.length ca), (5, true, .pointer (some ⟨b1, 0, none⟩))]) (fun ⟨out, o, ca, sp, a, bad⟩ => rowL o 73 (flat encA out sp) ++ [TkO b1 s a bad]) (fun ⟨out, o, ca, sp, a, bad⟩ => OwnOk o ca 5 out.length sp.length ∧ RPr s out a bad ∧ out.length ≤ 257 ∧ AsSz out ∧ a ≤ s.length + 60) (fun ⟨out, o, ca, sp, a, bad⟩ => (s.length + 100 - a).toNat) ([], none, 0, [], 0, false) ?_ ?_
  · exact ⟨OwnOk.nil, RPr.new s, by simp, ⟨by simp, by simp⟩, by omega⟩
  rintro ⟨out, o, ca, sp, a, bad⟩ hI
  try dsimp only at hI ⊢
  obtain ⟨hok, hR, hol, hsz, hal⟩ := hI
  have nk := hok.nk
  have ha0 := hR.a0
  refine CW.seq ?_
  refine CW.seq ?_
  refine CW.region ?_
  refine W.p O.mv ?_
  refine W.p O.nc ?_
  first | refine W.p O.fb ?_ | refine W.p O.fa ?_
  refine W.p O.ld ?_
  refine W.p O.mv ?_
  refine W.p O.len ?_
  refine W.p O.lss ?_
  refine W.p O.mv ?_
  refine W.p O.mv ?_
  refine W.p O.nc ?_
  first | refine W.p O.fb ?_ | refine W.p O.fa ?_
  refine W.p O.ld ?_
  refine W.p O.nt ?_
  refine W.p O.pkB ?_
  refine W.p O.mv ?_
  refine W.p O.mv ?_
  refine W.p O.lenL ?_
  refine W.p O.leq ?_
  refine W.p O.pkB ?_
  refine WL.nil (Q.tn ?_)
  refine CW.cond (vt rfl) (fun hc1 => ?_) (fun hc1 => ?_)
  · try simp only [sk] at hc1
    obtain rfl : bad = false := by simpa using hc1.1.2
    refine CW.skip (Q.tn ?_)
    refine CW.block ?_
    refine CW.seq ?_
    refine CW.region ?_
    refine W.p (O.bd (hv := PV.cons (vt rfl) (PV.nil))) ?_
    refine W.al rfl rfl fun b2 => ?_
    refine W.st (vt rfl) (vt rfl) rfl ?_
    refine WL.nil (Q.tn ?_)
    refine CW.seq ?_
    refine CW.seq ?_
    refine CW.region ?_
    refine W.p O.as ?_
    refine WL.nil (Q.tn ?_)
    refine CW.block ?_
    refine CW.loopA (X := Int × Int) (fun ⟨k, kd⟩ => [(0, true, .string (S s)), (4, true, .slice (oa o) out.length ca), (5, true, .pointer (some ⟨b1, 0, none⟩)), (6, true, .pointer (some ⟨b2, 0, none⟩)), (7, true, .int .i64 k)]) (fun ⟨k, kd⟩ => (b2, .cells #[.int .i64 kd, .string (S []), .int .i64 0, .int .i64 0, .int .i64 0] 73 (0, 0)) :: (rowL o 73 (flat encA out sp) ++ [TkO b1 s a false])) (fun ⟨k, kd⟩ => 0 ≤ k ∧ k ≤ 4 ∧ kd = kx (s.getD a.toNat 0) k) (fun ⟨k, kd⟩ => (4 - k).toNat) (0, -1) ?_ ?_
    · exact ⟨by omega, by omega, (kx_0 _).symm⟩
    rintro ⟨k, kd⟩ hI
    try dsimp only at hI ⊢
    obtain ⟨h0, h1, hkd⟩ := hI
    refine CW.seq ?_
    refine CW.seq ?_
    refine CW.region ?_
    refine W.p O.mv ?_
    refine W.p O.lss ?_
    refine WL.nil (Q.tn ?_)
    refine CW.cond (vt rfl) (fun hc2 => ?_) (fun hc2 => ?_)
    · try simp only [sk] at hc2
      refine CW.skip (Q.tn ?_)
      refine CW.seq ?_
      refine CW.block ?_
      refine CW.seq ?_
      refine CW.draw 9 rfl (by kernel_rfl) ?_
      refine WQ.p O.mv ?_
      refine WQ.p O.mv ?_
      refine WQ.p O.nc ?_
      first | refine WQ.p O.fb ?_ | refine WQ.p O.fa ?_
      refine WQ.p O.ld ?_
      first | refine WQ.p O.idxS ?_ | refine WQ.p (O.idxS (h := fun hg => by simp only [cond_true, cond_false, Bool.true_and, Bool.cond_false_right, Bool.cond_true_left, Bool.and_eq_true, Bool.or_eq_true, Bool.or_eq_false_iff, Bool.and_eq_false_iff, Bool.not_eq_true', Bool.not_eq_false', decide_eq_true_eq, decide_eq_false_iff_not, Int.reduceToNat] at *; omega)) ?_
      refine WQ.p O.mv ?_
      first | refine WQ.p O.idxS ?_ | refine WQ.p (O.idxS (h := fun hg => by simp only [cond_true, cond_false, Bool.true_and, Bool.cond_false_right, Bool.cond_true_left, Bool.and_eq_true, Bool.or_eq_true, Bool.or_eq_false_iff, Bool.and_eq_false_iff, Bool.not_eq_true', Bool.not_eq_false', decide_eq_true_eq, decide_eq_false_iff_not, Int.reduceToNat] at *; omega)) ?_
      refine WQ.p O.eqI ?_
      refine WQ.nil ?_
      refine WL.nil (Q.tn ?_)
      refine CW.cond (vt rfl) (fun hc3 => ?_) (fun hc3 => ?_)
      · try simp only [sk] at hc3
        refine CW.region ?_
        refine W.p O.mv ?_
        first | refine W.p O.fb ?_ | refine W.p O.fa ?_
        first | refine W.st (vt rfl) (vt rfl) rfl ?_ | refine W.st (u := .int _ _) (vt rfl) (vt rfl) rfl ?_
        refine WL.nil (Q.bn (Q.tn ?_))
        refine CW.region ?_
        refine W.p O.mv ?_
        first | refine W.p O.addN ?_ | refine W.p O.add ?_
        refine W.p O.as ?_
        refine WL.nil (Q.tn ?_)
        refine nextA (_, _) ?_ ?_
        · try dsimp only
          refine ⟨by omega, by omega, ?_⟩
          rw [kx_step h0 hc2, if_pos (UInt8.toNat_inj.1 (by exact_mod_cast hc3))]
        · try dsimp only
          omega
      try simp only [sk] at hc3
      refine CW.skip (Q.bn (Q.tn ?_))
      refine CW.region ?_
      refine W.p O.mv ?_
      first | refine W.p O.addN ?_ | refine W.p O.add ?_
      refine W.p O.as ?_
      refine WL.nil (Q.tn ?_)
      refine nextA (_, _) ?_ ?_
      · try dsimp only
        refine ⟨by omega, by omega, ?_⟩
        rw [kx_step h0 hc2, if_neg (fun e => hc3 (by rw [e]; rfl))]; exact hkd
      · try dsimp only
        omega
    try simp only [sk] at hc2
    have hkind : kd = kindA [s.getD a.toNat 0] := by rw [hkd, show k = 4 by omega]; exact kx_4 _
    refine CW.exit (Q.te (Q.te (Q.bx (Q.tn ?_))))
    refine CW.seq ?_
    refine CW.region ?_
    refine W.p O.mv ?_
    refine W.p O.nc ?_
    first | refine W.p O.fb ?_ | refine W.p O.fa ?_
    refine W.p O.ld ?_
    first | refine W.p O.addN ?_ | refine W.p O.add ?_
    refine W.p O.nc ?_
    first | refine W.p O.fb ?_ | refine W.p O.fa ?_
    first | refine W.st (vt rfl) (vt rfl) rfl ?_ | refine W.st (u := .int _ _) (vt rfl) (vt rfl) rfl ?_
    refine WL.nil (Q.tn ?_)
    refine CW.seq ?_
    refine CW.region ?_
    refine W.p O.mv ?_
    refine WL.permS (L' := TkO b1 s (a + 1) false :: ((b2, .cells #[.int .i64 kd, .string (S []), .int .i64 0, .int .i64 0, .int .i64 0] 73 (0, 0)) :: rowL o 73 (flat encA out sp))) (List.perm_append_singleton (TkO b1 s (a + 1) false) ((b2, .cells #[.int .i64 kd, .string (S []), .int .i64 0, .int .i64 0, .int .i64 0] 73 (0, 0)) :: rowL o 73 (flat encA out sp))) ?_; refine W.callS (first := []) (cap := []) [TkO b1 s (a + 1) false] rfl (vt rfl) (AV.cons (vt rfl) (AV.nil)) (fun w hu hh => tk_digits b1 s (a + 1) false w hh (by omega) hn) ?_; rintro _ _ ⟨k1, x1, rfl, d1, rfl⟩; have k10 := d1.k0; have k18 := d1.k8
    first | refine W.p O.fb ?_ | refine W.p O.fa ?_
    first | refine W.st (vt rfl) (vt rfl) rfl ?_ | refine W.st (u := .int _ _) (vt rfl) (vt rfl) rfl ?_
    refine WL.nil (Q.tn ?_)
    refine CW.seq ?_
    refine CW.region ?_
    refine W.p O.mv ?_
    refine W.callS (first := []) (cap := []) [TkO b1 s (a + 1 + k1 + 1) (false || decide ((s.length : Int) ≤ a + 1 + k1))] rfl (vt rfl) (AV.cons (vt rfl) (AV.nil)) (fun w hu hh => tk_digits b1 s (a + 1 + k1 + 1) (false || decide ((s.length : Int) ≤ a + 1 + k1)) w hh (by omega) hn) ?_; rintro _ _ ⟨k2, x2, rfl, d2, rfl⟩; have k20 := d2.k0; have k28 := d2.k8
    first | refine W.p O.fb ?_ | refine W.p O.fa ?_
    first | refine W.st (vt rfl) (vt rfl) rfl ?_ | refine W.st (u := .int _ _) (vt rfl) (vt rfl) rfl ?_
    refine WL.nil (Q.tn ?_)
    refine CW.seq ?_
    refine CW.region ?_
    refine W.p O.mv ?_
    refine W.callS (first := []) (cap := []) [TkO b1 s (a + 1 + k1 + 1 + k2 + 1) ((false || decide ((s.length : Int) ≤ a + 1 + k1)) || decide ((s.length : Int) ≤ a + 1 + k1 + 1 + k2))] rfl (vt rfl) (AV.cons (vt rfl) (AV.nil)) (fun w hu hh => tk_digits b1 s (a + 1 + k1 + 1 + k2 + 1) ((false || decide ((s.length : Int) ≤ a + 1 + k1)) || decide ((s.length : Int) ≤ a + 1 + k1 + 1 + k2)) w hh (by omega) hn) ?_; rintro _ _ ⟨k3, x3, rfl, d3, rfl⟩; have k30 := d3.k0; have k38 := d3.k8
    first | refine W.p O.fb ?_ | refine W.p O.fa ?_
    first | refine W.st (vt rfl) (vt rfl) rfl ?_ | refine W.st (u := .int _ _) (vt rfl) (vt rfl) rfl ?_
    refine WL.nil (Q.tn ?_)
    refine CW.seq ?_
    refine CW.region ?_
    refine W.p O.mv ?_
    refine W.callS (first := []) (cap := []) [TkO b1 s (a + 1 + k1 + 1 + k2 + 1 + k3 + 1) (((false || decide ((s.length : Int) ≤ a + 1 + k1)) || decide ((s.length : Int) ≤ a + 1 + k1 + 1 + k2)) || decide ((s.length : Int) ≤ a + 1 + k1 + 1 + k2 + 1 + k3))] rfl (vt rfl) (AV.cons (vt rfl) (AV.nil)) (fun w hu hh => tk_digits b1 s (a + 1 + k1 + 1 + k2 + 1 + k3 + 1) (((false || decide ((s.length : Int) ≤ a + 1 + k1)) || decide ((s.length : Int) ≤ a + 1 + k1 + 1 + k2)) || decide ((s.length : Int) ≤ a + 1 + k1 + 1 + k2 + 1 + k3)) w hh (by omega) hn) ?_; rintro _ _ ⟨k4, x4, rfl, d4, rfl⟩; have k40 := d4.k0; have k48 := d4.k8
    refine W.p O.as ?_
    refine WL.nil (Q.tn ?_)
    refine CW.seq ?_
    refine CW.seq ?_
    refine CW.region ?_
    refine W.p O.mv ?_
    refine W.p O.nc ?_
    first | refine W.p O.fb ?_ | refine W.p O.fa ?_
    refine W.p O.ld ?_
    refine W.p O.nt ?_
    refine WL.nil (Q.tn ?_)
    refine CW.cond (vt rfl) (fun hc4 => ?_) (fun hc4 => ?_)
    · try simp only [sk] at hc4
      have hb4 : ((((false || decide ((s.length : Int) ≤ a + 1 + k1)) || decide ((s.length : Int) ≤ a + 1 + k1 + 1 + k2)) || decide ((s.length : Int) ≤ a + 1 + k1 + 1 + k2 + 1 + k3)) || decide ((s.length : Int) ≤ a + 1 + k1 + 1 + k2 + 1 + k3 + 1 + k4)) = false := by simpa using hc4
      have hb40 := d4.bound
      refine CW.region ?_
      refine W.p O.mv ?_
      refine W.p O.mv ?_
      refine W.callS (first := []) (cap := []) [TkO b1 s (a + 1 + k1 + 1 + k2 + 1 + k3 + 1 + k4 + 1) ((((false || decide ((s.length : Int) ≤ a + 1 + k1)) || decide ((s.length : Int) ≤ a + 1 + k1 + 1 + k2)) || decide ((s.length : Int) ≤ a + 1 + k1 + 1 + k2 + 1 + k3)) || decide ((s.length : Int) ≤ a + 1 + k1 + 1 + k2 + 1 + k3 + 1 + k4))] rfl (vt rfl) (AV.cons (vt rfl) (AV.cons (vt rfl) (AV.nil))) (fun w hu hh => tk_text b1 s (a + 1 + k1 + 1 + k2 + 1 + k3 + 1 + k4 + 1) ((((false || decide ((s.length : Int) ≤ a + 1 + k1)) || decide ((s.length : Int) ≤ a + 1 + k1 + 1 + k2)) || decide ((s.length : Int) ≤ a + 1 + k1 + 1 + k2 + 1 + k3)) || decide ((s.length : Int) ≤ a + 1 + k1 + 1 + k2 + 1 + k3 + 1 + k4)) x4 w hh hb4 (by omega) hb40 hn) ?_; rintro _ _ ⟨tx, a2, bd, rfl, hT, rfl⟩
      first | refine W.p O.fb ?_ | refine W.p O.fa ?_
      first | refine W.st (vt rfl) (vt rfl) rfl ?_ | refine W.st (u := .string _) (vt rfl) (vt rfl) rfl ?_
      refine WL.nil (Q.tn ?_)
      refine CW.region ?_
      refine W.p O.mv ?_
      refine W.p O.lds ?_
      refine W.bs encA [⟨_, _, _, _, _⟩] rfl (PV.cons (vt rfl) (PV.nil)) rfl rfl rfl (by decide) rfl fun b3 => ?_
      refine W.ap rfl (vt rfl) (vt rfl) (by first | rfl | omega) (by first | rfl | omega) rfl (by first | assumption | exact OwnOk.nil | exact OwnOk.lit) (by first | omega | (simp; omega)) fun o1 c1 sp1 ok1 ne1 gt1 => ?_
      have nk1 := ok1.nk; have le1 := ok1.2.2.1; try simp only [List.length_append, List.length_cons, List.length_nil] at le1
      refine W.p O.as ?_
      refine WL.nil (Q.bn (Q.tn ?_))
      refine nextA (out ++ [⟨kd, tx, x1, x2, x3⟩], _, _, _, a2, bd) ?_ ?_
      · try dsimp only
        refine ⟨by assumption, ?_, by rw [List.length_append]; simp; omega, as_snoc hsz (by omega) ?_, ?_⟩
        · rcases hT with ⟨t1, rfl, rfl, rfl⟩ | ⟨t1, rfl, rfl, rfl⟩
          · rw [hkind]; exact hR.step hc1.1.1 d1 d2 d3 d4 (by omega)
          · exact hR.fail hc1.1.1 d1 d2 d3 d4 (.inr (.inr (.inr (.inr (.inr t1))))) (by omega)
        · rcases hT with ⟨t1, rfl, rfl, rfl⟩ | ⟨t1, rfl, rfl, rfl⟩
          · dsimp only; rw [List.length_take, List.length_drop]; omega
          · simp
        · rcases hT with ⟨t1, rfl, rfl, rfl⟩ | ⟨t1, rfl, rfl, rfl⟩ <;> omega
      · try dsimp only
        rcases hT with ⟨t1, t2, t3, t4⟩ | ⟨t1, t2, t3, t4⟩ <;> omega
    try simp only [sk] at hc4
    have hb4 : ((((false || decide ((s.length : Int) ≤ a + 1 + k1)) || decide ((s.length : Int) ≤ a + 1 + k1 + 1 + k2)) || decide ((s.length : Int) ≤ a + 1 + k1 + 1 + k2 + 1 + k3)) || decide ((s.length : Int) ≤ a + 1 + k1 + 1 + k2 + 1 + k3 + 1 + k4)) = true := by simpa using hc4
    have hb40 := d4.bound
    refine CW.skip (Q.tn ?_)
    refine CW.region ?_
    refine W.p O.mv ?_
    refine W.p O.lds ?_
    refine W.bs encA [⟨_, _, _, _, _⟩] rfl (PV.cons (vt rfl) (PV.nil)) rfl rfl rfl (by decide) rfl fun b4 => ?_
    refine W.ap rfl (vt rfl) (vt rfl) (by first | rfl | omega) (by first | rfl | omega) rfl (by first | assumption | exact OwnOk.nil | exact OwnOk.lit) (by first | omega | (simp; omega)) fun o2 c2 sp2 ok2 ne2 gt2 => ?_
    have nk2 := ok2.nk; have le2 := ok2.2.2.1; try simp only [List.length_append, List.length_cons, List.length_nil] at le2
    refine W.p O.as ?_
    refine WL.nil (Q.bn (Q.tn ?_))
    refine nextA (out ++ [⟨kd, [], x1, x2, x3⟩], _, _, _, _, _) ?_ ?_
    · try dsimp only
      refine ⟨by assumption, ?_, by rw [List.length_append]; simp; omega, as_snoc hsz (by omega) (by simp), by omega⟩
      refine (congrArg (RPr s _ _) hb4).mpr ?_
      refine hR.fail hc1.1.1 d1 d2 d3 d4 ?_ (by omega)
      simp only [Bool.or_eq_true, decide_eq_true_eq, Bool.false_eq_true, false_or] at hb4
      rcases hb4 with ((h | h) | h) | h
      · exact .inr (.inl h)
      · exact .inr (.inr (.inl h))
      · exact .inr (.inr (.inr (.inl h)))
      · exact .inr (.inr (.inr (.inr (.inl h))))
    · try dsimp only
      omega
  try simp only [sk] at hc1
  have hend := hR.end (by rcases hc1 with (h | h) | h; (exact .inl (by omega)); (exact .inr (.inl h)); (exact .inr (.inr (by omega))))
  refine CW.exit (Q.te (Q.te (Q.bx (Q.tn ?_))))
  refine CW.seq ?_
  refine CW.region ?_
  refine W.p O.mv ?_
  refine W.q (O.call ⟨rfl, rfl⟩ (AV.cons (vt rfl) (AV.nil)) (fun _ w hw => ref_ShowActs out _ _ w (RowL.h _ hw) hsz)) ?_
  refine W.p O.mv ?_
  first | refine W.p O.extL ?_ | refine W.p O.ext ?_
  first | refine W.p O.extL ?_ | refine W.p O.ext ?_
  refine W.p O.as ?_
  refine W.p O.as ?_
  refine WL.nil (Q.tn ?_)
  refine CW.seq ?_
  refine CW.seq ?_
  refine CW.region ?_
  refine W.p O.mv ?_
  refine W.p O.neI ?_
  refine W.p O.mv ?_
  refine W.p O.mv ?_
  refine W.p O.mv ?_
  refine W.p O.neS ?_
  refine W.p O.pkB ?_
  refine WL.nil (Q.tn ?_)
  refine CW.cond (vt rfl) (fun hc5 => ?_) (fun hc5 => ?_)
  · try simp only [sk] at hc5
    refine CW.seq ?_
    refine CW.region ?_
    refine W.p O.as ?_
    refine W.p O.as ?_
    refine WL.nil (Q.tn ?_)
    refine CW.ret (Q.tr ?_)
    refine ⟨_, [], (RVs.tmp rfl (RVs.tmp rfl RVs.nil)), List.nil_sublist _, ?_⟩
    rw [if_neg (by rcases hc5 with h | h; (exact fun q => h q.1); (exact fun q => h q.2))] at hend
    rw [PRes, hend]; exact ⟨none, 0, [], rfl, OwnOk.nil, rfl⟩
  try simp only [sk] at hc5
  refine CW.skip (Q.tn ?_)
  refine CW.seq ?_
  refine CW.region ?_
  refine W.p O.mv ?_
  refine W.p O.as ?_
  refine W.p O.as ?_
  refine WL.nil (Q.tn ?_)
  refine CW.ret ?_
  refine ⟨_, rowL o 73 (flat encA out sp), (RVs.tmp rfl (RVs.tmp rfl RVs.nil)), (by repeat (first | exact List.Sublist.refl _ | exact hSub _ | exact List.sublist_append_left _ _ | exact List.nil_sublist _ | refine List.Sublist.append (List.Sublist.refl _) ?_ | apply List.Sublist.cons_cons | apply List.Sublist.cons | exact List.sublist_append_left _ _ | refine List.Sublist.trans ?_ (List.sublist_append_right _ _))), ?_⟩
  rw [if_pos hc5] at hend; rw [PRes, hend]; exact ⟨o, ca, sp, rfl, hok, rfl⟩
end Go.Proofs.YtagiajnpnjakhaaDoor
