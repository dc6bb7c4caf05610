/- What package script's show and strings.Join come to. Conditions: an act's text is not longer than a million; the library's table of powers of ten is as its text lays it. -/
import Derived.Test.YtagiajnpnjakhaaDoorScA
import Derived.Test.YtagiajnpnjakhaaDoorIto
import Derived.Test.YtagiajnpnjakhaaDoorCv
set_option linter.unusedVariables false
set_option linter.unusedSimpArgs false
namespace Go.Proofs.YtagiajnpnjakhaaDoor
open Go Go.RowKit
theorem O.callV {P : Program} {n d : Nat} {w0 : World} {L0 L : Heap} {all : List Oper} {E : Env} {ty : TypeId} {pos : String} {aft : Array Edge} {g : Option (Nat × Bool)} {G : Bool} {f : FuncId} {x : Operand} {xs : List Operand} {us : List Value} {Ts : Array TypeId} {v : Value} [ht : TBody P f] (hp : Pre n all E g d G) (hx : Val G E x (.func (.func f) #[] #[])) (hv : AV G E xs us)
    (hc : G = true → ∀ w, Upd w0 L0 w L → Fn P f us w [] fun v' L' => v' = v ∧ L' = []) : Quiet P n w0 L0 all ⟨some d, .call ⟨.value x, xs.toArray, Ts⟩, ty, pos, aft, g⟩ E L d G v :=
  ⟨rfl, hp, fun hG a w L2 hs ha hw K Q hK => by
    obtain ⟨fn, h1, h2, h3⟩ := TBody.h (P := P) (f := f)
    have hr := r_call (P := P) (ρ := a.eval) (d := some d) (x := x) (ty := ty) (pos := pos) (aft := aft) (g := g) (w := w) (args := xs.toArray) (Ts := Ts) (first := #[]) (cap := #[]) (hx.eval hG ha) h1 h2 h3
    rw [List.map_toArray, hv.eval ha hG] at hr
    simp only [Oper.wp, hr, Oper.upon]
    have := hc hG w (hw.sub hs)
    unfold Fn at this
    simp only [Array.empty_append, Array.append_empty]
    refine Calls.mono this ?_
    rintro e w' ⟨v', L', rfl, ⟨rfl, rfl⟩, hu⟩
    exact hK _ (hw.trans (Lf := []) (F := L2) (by simp) hu)⟩
theorem flat_two {ls : List (List UInt8)} {k : Nat} (h : k + 1 < ls.length) : (ls.take (k + 2)).flatten = (ls.take (k + 1)).flatten ++ [] ++ (ls.drop 1).getD k [] := by
  rw [List.take_succ_eq_append_getElem h, List.flatten_append, List.append_nil]
  congr 1
  rw [List.getD_eq_getElem?_getD, List.getElem?_drop, Nat.add_comm 1 k, List.getElem?_eq_getElem h]; simp
set_option maxRecDepth 100000 in
theorem st_JoinE (ls : List (List UInt8)) (a : Option Addr) (c : Nat) (w : World) (h : In w a (ls.flatMap encS)) (hc : ls.length ≤ c) (hn : ls.flatten.length + ls.length ≤ 70368744177664) :
    Fn Tryd.prog 67 [.slice a ls.length c, .string (S [])] w [] fun v L' => v = .string (S ls.flatten) ∧ L' = [] := by
  have row := Row.ofE h
  have hz1 : ([] : List UInt8).length = 0 := rfl
  refine Fn.enter Tryd.func67 rfl rfl rfl rfl (Holds.nil w) ?_
  refine CW.seq ?_
  refine CW.region ?_
  refine W.p O.as ?_
  refine WL.nil (Q.tn ?_)
  refine CW.seq ?_
  refine CW.seq ?_
  refine CW.region ?_
  refine W.p O.mv ?_
  refine W.p O.lenL ?_
  refine WL.nil (Q.tn ?_)
  refine CW.block ?_
  refine CW.seq ?_
  refine CW.region ?_
  refine W.p O.eqI ?_
  refine W.p O.as ?_
  refine WL.nil (Q.tn ?_)
  refine CW.cond (vt rfl) (fun hc1 => ?_) (fun hc1 => ?_)
  · try simp only [sk] at hc1
    refine CW.seq ?_
    refine CW.region ?_
    refine W.p O.as ?_
    refine WL.nil (Q.tn ?_)
    refine CW.ret (Q.br (Q.tr ?_))
    refine ⟨_, [], (RVs.tmp rfl RVs.nil), List.nil_sublist _, ?_⟩
    refine ⟨?_, rfl⟩
    have : ls = [] := List.eq_nil_of_length_eq_zero (by omega)
    subst this; rfl
  try simp only [sk] at hc1
  refine CW.seq ?_
  refine CW.region ?_
  refine W.p O.eqI ?_
  refine W.p O.as ?_
  refine WL.nil (Q.tn ?_)
  refine CW.cond (vt rfl) (fun hc2 => ?_) (fun hc2 => ?_)
  · try simp only [sk] at hc2
    refine CW.seq ?_
    refine CW.region ?_
    refine W.p O.mv ?_
    refine W.p O.ixA ?_
    refine W.p O.ldE ?_
    refine W.p O.as ?_
    refine WL.nil (Q.tn ?_)
    refine CW.ret (Q.br (Q.tr ?_))
    refine ⟨_, [], (RVs.tmp rfl RVs.nil), List.nil_sublist _, ?_⟩
    refine ⟨?_, rfl⟩
    obtain ⟨l, rfl⟩ := List.length_eq_one_iff.1 (show ls.length = 1 by omega)
    simp [oneOr]
  try simp only [sk] at hc2
  have row2 := Row.ofE (In.drop (m := 1) h (fun _ => rfl) 1 (by omega))
  have hne : ls ≠ [] := by intro e; rw [e] at hc1; exact hc1 rfl
  refine CW.skip (Q.bn (Q.tn ?_))
  refine CW.seq ?_
  refine CW.region ?_
  refine W.p O.as ?_
  refine WL.nil (Q.tn ?_)
  refine CW.seq ?_
  refine CW.seq ?_
  refine CW.region ?_
  refine W.p O.mv ?_
  refine W.p O.len ?_
  refine W.p O.gtr ?_
  refine WL.nil (Q.tn ?_)
  refine CW.cond (vt rfl) (fun hc3 => ?_) (fun hc3 => ?_)
  · exact absurd (of_decide_eq_true hc3) (by omega)
  try simp only [sk] at hc3
  refine CW.skip (Q.tn ?_)
  refine CW.seq ?_
  refine CW.seq ?_
  refine CW.region ?_
  refine W.p O.mv ?_
  refine W.p O.lenL ?_
  refine W.p O.mv ?_
  refine WL.nil (Q.tn ?_)
  refine CW.block ?_
  refine CW.loopA (X := Int × Int) (fun ⟨i, k⟩ => [(0, true, .slice a ls.length c), (1, true, .string (S [])), (5, true, .int .i64 k), (39, true, .slice a ls.length c), (40, true, .int .i64 ls.length), (41, true, .int .i64 i)]) (fun ⟨i, k⟩ => []) (fun ⟨i, k⟩ => 0 ≤ i ∧ i ≤ ls.length ∧ k = (ls.take i.toNat).flatten.length) (fun ⟨i, k⟩ => (ls.length - i).toNat) (0, _) ?_ ?_
  · refine ⟨by omega, by omega, ?_⟩
    simp
  rintro ⟨i, k⟩ hI
  try dsimp only at hI ⊢
  obtain ⟨h0, h1, hk⟩ := hI
  have hft := flat_take ls i.toNat
  have hfg := flat_getD ls i.toNat
  refine CW.seq ?_
  refine CW.region ?_
  refine W.p O.lss ?_
  refine WL.nil (Q.tn ?_)
  refine CW.seq ?_
  refine CW.cond (vt rfl) (fun hc4 => ?_) (fun hc4 => ?_)
  · try simp only [sk] at hc4
    refine CW.skip (Q.tn ?_)
    refine CW.seq ?_
    refine CW.block ?_
    refine CW.seq ?_
    refine CW.region ?_
    refine W.p O.ixA ?_
    refine W.p O.ldE ?_
    refine W.p O.as ?_
    refine WL.nil (Q.tn ?_)
    refine CW.seq ?_
    refine CW.seq ?_
    refine CW.region ?_
    refine W.p O.mv ?_
    refine W.p O.len ?_
    refine W.p O.mv ?_
    first | refine W.p O.subN ?_ | refine W.p O.sub ?_
    refine W.p O.gtr ?_
    refine WL.nil (Q.tn ?_)
    refine CW.cond (vt rfl) (fun hc5 => ?_) (fun hc5 => ?_)
    · exact absurd (of_decide_eq_true hc5) (by omega)
    try simp only [sk] at hc5
    refine CW.skip (Q.tn ?_)
    refine CW.region ?_
    refine W.p O.mv ?_
    refine W.p O.mv ?_
    refine W.p O.len ?_
    first | refine W.p O.addN ?_ | refine W.p O.add ?_
    refine W.p O.as ?_
    refine WL.nil (Q.bn (Q.tn ?_))
    refine CW.region ?_
    first | refine W.p O.addN ?_ | refine W.p O.add ?_
    refine W.p O.mv ?_
    refine WL.nil (Q.tn ?_)
    refine nextA (_, _) ?_ ?_
    · try dsimp only
      have := flat_step h0 hc4
      exact ⟨by omega, by omega, by omega⟩
    · try dsimp only
      omega
  try simp only [sk] at hc4
  refine CW.exit (Q.te (Q.te (Q.bx (Q.tn ?_))))
  refine CW.seq ?_
  refine CW.region ?_
  refine W.al rfl rfl fun b1 => ?_
  refine WL.nil (Q.tn ?_)
  refine CW.seq ?_
  refine CW.region ?_
  refine W.p O.mv ?_
  refine W.callS (first := []) (cap := []) _ rfl (vt rfl) (AV.cons (vt rfl) (AV.cons (vt rfl) (AV.nil))) (fun w hu hh => (by have := bd_Grow0 b1 k.toNat w hh (by omega); rwa [show ((k.toNat : Nat) : Int) = k by omega] at this)) ?_; rintro _ Lb0 hB0
  refine WL.nil (Q.tn ?_)
  refine CW.seq ?_
  refine CW.region ?_
  refine W.p O.mv ?_
  refine W.p O.ixA ?_
  refine W.p O.ldE ?_
  refine W.callS (first := []) (cap := []) _ rfl (vt rfl) (AV.cons (vt rfl) (AV.cons (vt rfl) (AV.nil))) (fun w hu hh => bd_str w hB0 hh (by have hf0 := flat_getD ls (0 : Int).toNat; rw [List.length_nil]; omega)) ?_; rintro _ Lb1 hB1
  refine WL.nil (Q.tn ?_)
  refine CW.seq ?_
  refine CW.seq ?_
  refine CW.region ?_
  refine W.p O.mv ?_
  refine W.p O.slL ?_
  refine W.p O.lenL ?_
  refine W.p O.mv ?_
  refine WL.nil (Q.tn ?_)
  refine CW.block ?_
  refine CW.loopA (X := Int × Heap) (fun ⟨i, Lb⟩ => [(1, true, .string (S [])), (8, true, .pointer (some ⟨b1, 0, none⟩)), (63, true, .slice (elt a 1 1 0) (ls.length - 1) (c - 1)), (64, true, .int .i64 ((ls.length - 1 : Nat) : Int)), (65, true, .int .i64 i)]) (fun ⟨i, Lb⟩ => Lb) (fun ⟨i, Lb⟩ => 0 ≤ i ∧ i ≤ (ls.length - 1 : Nat) ∧ Bd b1 (ls.take (i.toNat + 1)).flatten Lb) (fun ⟨i, Lb⟩ => ((ls.length - 1 : Nat) - i).toNat) (0, Lb1) ?_ ?_
  · refine ⟨by omega, by omega, ?_⟩
    have e : (ls.take ((0 : Int).toNat + 1)).flatten = [] ++ ls.getD (0 : Int).toNat [] := by cases ls with | nil => exact absurd rfl hne | cons l r => simp
    rw [e]; exact hB1
  rintro ⟨i, Lb⟩ hI
  try dsimp only at hI ⊢
  obtain ⟨h0, h1, hB⟩ := hI
  have hft := flat_take ls (i.toNat + 1)
  have hfg := flat_getD (ls.drop 1) i.toNat
  have hfd : (ls.drop 1).flatten.length ≤ ls.flatten.length := by cases ls with | nil => simp | cons l r => simp
  have hdl : (ls.drop 1).length = ls.length - 1 := List.length_drop
  refine CW.seq ?_
  refine CW.region ?_
  refine W.p O.lss ?_
  refine WL.nil (Q.tn ?_)
  refine CW.seq ?_
  refine CW.cond (vt rfl) (fun hc6 => ?_) (fun hc6 => ?_)
  · try simp only [sk] at hc6
    refine CW.skip (Q.tn ?_)
    refine CW.seq ?_
    refine CW.block ?_
    refine CW.seq ?_
    refine CW.region ?_
    refine W.p O.ixA ?_
    refine W.p O.ldE ?_
    refine W.p O.as ?_
    refine WL.nil (Q.tn ?_)
    refine CW.seq ?_
    refine CW.region ?_
    refine W.p O.mv ?_
    refine W.callS (first := []) (cap := []) _ rfl (vt rfl) (AV.cons (vt rfl) (AV.cons (vt rfl) (AV.nil))) (fun w hu hh => bd_str w hB hh (by omega)) ?_; rintro _ Lb2 hB2
    refine WL.nil (Q.tn ?_)
    refine CW.region ?_
    refine W.p O.mv ?_
    refine W.callS (first := []) (cap := []) _ rfl (vt rfl) (AV.cons (vt rfl) (AV.cons (vt rfl) (AV.nil))) (fun w hu hh => bd_str w hB2 hh (by simp only [List.length_append]; omega)) ?_; rintro _ Lb3 hB3
    refine WL.nil (Q.bn (Q.tn ?_))
    refine CW.region ?_
    first | refine W.p O.addN ?_ | refine W.p O.add ?_
    refine W.p O.mv ?_
    refine WL.nil (Q.tn ?_)
    refine nextA (_, Lb3) ?_ ?_
    · try dsimp only
      refine ⟨by omega, by omega, ?_⟩
      rw [show (i + 1).toNat + 1 = i.toNat + 2 by omega, flat_two (by omega)]
      exact hB3
    · try dsimp only
      omega
  try simp only [sk] at hc6
  refine CW.exit (Q.te (Q.te (Q.bx (Q.tn ?_))))
  refine CW.seq ?_
  refine CW.region ?_
  refine W.callS (first := []) (cap := []) _ rfl (vt rfl) (AV.cons (vt rfl) (AV.nil)) (fun w hu hh => bd_string w hB hh) ?_; rintro _ _ rfl
  refine W.p O.as ?_
  refine WL.nil (Q.tn ?_)
  refine CW.ret ?_
  refine ⟨_, [], (RVs.tmp rfl RVs.nil), List.nil_sublist _, ?_⟩
  refine ⟨?_, rfl⟩
  rw [show i.toNat + 1 = ls.length by omega, List.take_length]; rfl
theorem itoa_len {x : Int} (h0 : -9223372036854775808 ≤ x) (h1 : x ≤ 9223372036854775807) : (Lib.itoa x).length ≤ 21 := by
  rw [Lib.itoa]
  split
  · have := dig_len 19 x.natAbs (by omega)
    simp only [List.length_cons]; omega
  · have := dig_len 19 x.toNat (by omega); omega
theorem lett_len (k : Int) : (lett k).length ≤ 1 := by
  by_cases h0 : k = 0 <;> by_cases h1 : k = 1 <;> by_cases h2 : k = 2 <;> by_cases h3 : k = 3 <;> simp [lett, h0, h1, h2, h3]
set_option maxRecDepth 100000 in
theorem sc_show {p : Option Addr} (a : Ac) (w : World) (hi : In w p (encA a)) (hl : a.text.length ≤ 1048576) (hb : -9223372036854775808 ≤ a.by_ ∧ a.by_ ≤ 9223372036854775807) (hc : -9223372036854775808 ≤ a.cut ∧ a.cut ≤ 9223372036854775807) (hk : -9223372036854775808 ≤ a.keep ∧ a.keep ≤ 9223372036854775807) (ht : Tab10 w) : Fn Tryd.prog 66 [.pointer p] w [] fun v L' => v = .string (S (acT a)) ∧ L' = [] := by
  obtain ⟨q, rfl⟩ := hi.adr (by simp)
  have c0 : ∀ {L : Heap}, Cell w [] L (q.add 0) (.int .i64 a.kind) := fun {L} => cellQ hi rfl
  have c1 : ∀ {L : Heap}, Cell w [] L (q.add 1) (.string (S a.text)) := fun {L} => cellQ hi rfl
  have c2 : ∀ {L : Heap}, Cell w [] L (q.add 2) (.int .i64 a.by_) := fun {L} => cellQ hi rfl
  have c3 : ∀ {L : Heap}, Cell w [] L (q.add 3) (.int .i64 a.cut) := fun {L} => cellQ hi rfl
  have c4 : ∀ {L : Heap}, Cell w [] L (q.add 4) (.int .i64 a.keep) := fun {L} => cellQ hi rfl
  have l1 := itoa_len hb.1 hb.2; have l2 := itoa_len hc.1 hc.2; have l3 := itoa_len hk.1 hk.2; have l4 := itoa_len (x := (a.text.length : Int)) (by omega) (by omega)
  have lk := lett_len a.kind
  have hjz : [Lib.itoa a.by_, Lib.itoa a.cut, Lib.itoa a.keep, Lib.itoa a.text.length].flatten.length + [Lib.itoa a.by_, Lib.itoa a.cut, Lib.itoa a.keep, Lib.itoa a.text.length].length ≤ 70368744177664 := by
    simp only [List.flatten_cons, List.flatten_nil, List.length_append, List.length_cons, List.length_nil]; omega
  have hj := joinB_len 44 [Lib.itoa a.by_, Lib.itoa a.cut, Lib.itoa a.keep, Lib.itoa a.text.length]
  have hc1' : ([58] : List UInt8).length = 1 := rfl
  refine Fn.enter Tryd.func66 rfl rfl rfl rfl (Holds.nil w) ?_
  refine CW.seq ?_
  refine CW.region ?_
  refine W.p O.as ?_
  refine WL.nil (Q.tn ?_)
  refine CW.seq ?_
  refine CW.region ?_
  refine W.p O.as ?_
  refine WL.nil (Q.tn ?_)
  refine CW.seq ?_
  refine CW.drawHL rfl ?_
  refine RH.qa 0 rfl (O.mv) ?_
  refine RH.qa 1 rfl (O.nc) ?_
  first | refine RH.qa 2 rfl (O.fb) ?_ | refine RH.qa 2 rfl (O.fa) ?_
  first | refine RH.qa 3 rfl (O.ld) ?_ | refine RH.qa 3 rfl (O.ldC) ?_
  refine RH.qa 5 rfl (O.mv) ?_
  refine RH.qa 6 rfl (O.mv) ?_
  refine RH.qa 7 rfl (O.nc) ?_
  first | refine RH.qa 8 rfl (O.fb) ?_ | refine RH.qa 8 rfl (O.fa) ?_
  first | refine RH.qa 9 rfl (O.ld) ?_ | refine RH.qa 9 rfl (O.ldC) ?_
  refine RH.qa 11 rfl (O.mv) ?_
  refine RH.qa 12 rfl (O.mv) ?_
  refine RH.qa 13 rfl (O.nc) ?_
  first | refine RH.qa 14 rfl (O.fb) ?_ | refine RH.qa 14 rfl (O.fa) ?_
  first | refine RH.qa 15 rfl (O.ld) ?_ | refine RH.qa 15 rfl (O.ldC) ?_
  refine RH.qa 17 rfl (O.mv) ?_
  refine RH.qa 18 rfl (O.mv) ?_
  refine RH.qa 19 rfl (O.nc) ?_
  first | refine RH.qa 20 rfl (O.fb) ?_ | refine RH.qa 20 rfl (O.fa) ?_
  first | refine RH.qa 21 rfl (O.ld) ?_ | refine RH.qa 21 rfl (O.ldC) ?_
  refine RH.qa 23 rfl (O.mv) ?_
  refine RH.qa 24 rfl (O.mv) ?_
  refine RH.qa 25 rfl (O.nc) ?_
  first | refine RH.qa 26 rfl (O.fb) ?_ | refine RH.qa 26 rfl (O.fa) ?_
  first | refine RH.qa 27 rfl (O.ld) ?_ | refine RH.qa 27 rfl (O.ldC) ?_
  refine RH.qa 28 rfl (O.len) ?_
  refine RH.qa 34 rfl (O.mv) ?_
  refine RH.qa 35 rfl (O.nc) ?_
  first | refine RH.qa 36 rfl (O.fb) ?_ | refine RH.qa 36 rfl (O.fa) ?_
  first | refine RH.qa 37 rfl (O.ld) ?_ | refine RH.qa 37 rfl (O.ldC) ?_
  refine RH.one (i := 4) (fun _ _ h => h) (by kernel_rfl) rfl ?_
  refine W.q (O.call ⟨rfl, rfl⟩ (AV.cons (vt rfl) (AV.nil)) (fun _ w hw => sc_letter _ w)) ?_
  refine WL.nilQa ?_
  refine RH.one (i := 10) (fun _ _ h => h) (by kernel_rfl) rfl ?_
  refine W.q (O.callV ⟨rfl, rfl⟩ (vt rfl) (AV.cons (vt rfl) (AV.nil)) (fun _ w hw => it_Itoa _ w (by omega) (by omega) (ht.upd hw))) ?_
  refine WL.nilQa ?_
  refine RH.one (i := 16) (fun _ _ h => h) (by kernel_rfl) rfl ?_
  refine W.q (O.callV ⟨rfl, rfl⟩ (vt rfl) (AV.cons (vt rfl) (AV.nil)) (fun _ w hw => it_Itoa _ w (by omega) (by omega) (ht.upd hw))) ?_
  refine WL.nilQa ?_
  refine RH.one (i := 22) (fun _ _ h => h) (by kernel_rfl) rfl ?_
  refine W.q (O.callV ⟨rfl, rfl⟩ (vt rfl) (AV.cons (vt rfl) (AV.nil)) (fun _ w hw => it_Itoa _ w (by omega) (by omega) (ht.upd hw))) ?_
  refine WL.nilQa ?_
  refine RH.one (i := 29) (fun _ _ h => h) (by kernel_rfl) rfl ?_
  refine W.q (O.callV ⟨rfl, rfl⟩ (vt rfl) (AV.cons (vt rfl) (AV.nil)) (fun _ w hw => it_Itoa _ w (by omega) (by omega) (ht.upd hw))) ?_
  refine WL.nilQa ?_
  refine RH.one (i := 30) (fun _ _ h => h) (by kernel_rfl) rfl ?_
  refine W.bs encS [_, _, _, _] rfl (PV.cons (vt rfl) (PV.cons (vt rfl) (PV.cons (vt rfl) (PV.cons (vt rfl) (PV.nil))))) rfl rfl rfl (by decide) rfl fun b1 => ?_
  refine WL.nilQa ?_
  refine RH.one (i := 31) (fun _ _ h => h) (by kernel_rfl) rfl ?_
  refine W.q (O.call ⟨rfl, rfl⟩ (AV.cons (vt rfl) (AV.cons (vt rfl) (AV.nil))) (fun _ w hw => st_Join1 [Lib.itoa a.by_, Lib.itoa a.cut, Lib.itoa a.keep, Lib.itoa a.text.length] 44 _ _ w (RowL.h _ hw) (Nat.le_refl 4) hjz)) ?_
  refine WL.nilQa ?_
  refine RH.qa 32 rfl (O.addS) ?_
  refine RH.qa 33 rfl (O.addS) ?_
  refine RH.qa 38 rfl (O.addS) ?_
  refine RH.qa 39 rfl (O.as) ?_
  refine RH.done (by kernel_rfl) (Q.tn ?_)
  refine CW.ret ?_
  refine ⟨_, [], (RVs.tmp rfl RVs.nil), List.nil_sublist _, ?_⟩
  refine ⟨?_, rfl⟩
  simp [acT, acH, joinB, oneOr]
end Go.Proofs.YtagiajnpnjakhaaDoor
