/- What script.Show comes to. Conditions: the acts are not more than a million, nor their texts longer; the library's table of powers of ten is us its text lays it. -/
import Derived.Test.YtagiajnpnjakhaaDoorScB
import Derived.Test.YtagiajnpnjakhaaDoorMkE
import Derived.Laws.OwnMore
set_option linter.unusedVariables false
set_option linter.unusedSimpArgs false
namespace Go.Proofs.YtagiajnpnjakhaaDoor
open Go Go.RowKit
structure AsSz (us : List Ac) : Prop where
  hl : us.length ≤ 1048576
  ht : ∀ a ∈ us, a.text.length ≤ 1048576
section
variable {P : Program} {ρ : Operand → Value} {D : Option Tmp} {d n : Nat} {w0 w : World} {L0 L L' : Heap} {all rest : List Oper} {E : Env} {Q : Post} {x y : Operand} {T T' U ty : TypeId} {pos : String} {aft : Array Edge} {g : Option (Nat × Bool)} {G : Bool}
/-- 'make' of no texts, with room for some -/
theorem W.mkO {k1 k2 : IntKind} {kb : Nat} {j : Int} {z : Value} [hT : TSlice P T U] [hS : TSize P U 1] [hZ : TZero P U z] [hB : TByt P U kb] (hn : Nat.blt d n = true) (hx : Val true E x (.int k1 0)) (hy : Val true E y (.int k2 j)) (c : Nat) (hj : j = (c : Int)) (hb : kb * c ≤ 281474976710656) (h63 : (c : Int) ≤ 9223372036854775807) (hz : z.cells = #[.string (S [])] := by rfl)
    (k : ∀ b, WL P n w0 L0 all rest ((d, true, .slice (oa (some b)) 0 c) :: E) (rowL (some b) U (flat encS [] (List.replicate c (.string (S [])))) ++ L) Q) : WL P n w0 L0 all (⟨some d, .makeSlice T x y, ty, pos, aft, none⟩ :: rest) E L Q := by
  subst hj
  refine W.new (v := fun b => .slice (some ⟨b, 0, none⟩) 0 c) (ob := .cells (flat encS [] (List.replicate c (.string (S [])))).toArray U (0, 0)) rfl rfl hn (fun a w ha _ => ?_) k
  have hi := hS.h; have hzz := hZ.h; have hbb := hB.h
  cases hu : P.info? U with
  | none => simp [hu] at hi
  | some i =>
    simp only [hu, Option.map_some, Option.some.injEq, Option.bind_some] at hi hzz hbb
    have := run_make (P := P) w T U i z hT.h hu hzz k1 k2 0 c (by omega) (by omega) (by rw [hbb]; have : ((kb * c : Nat) : Int) ≤ 281474976710656 := by omega
                                                                                        rwa [Int.natCast_mul] at this) h63
    have e : madeCells z.cells (c * i.size) = (flat encS [] (List.replicate c (.string (S [])))).toArray := by
      rw [hi, Nat.mul_one, hz]; apply Array.ext'; rw [toList_madeCells_one]; rfl
    rw [Int.toNat_natCast, e] at this
    simp [execOp, hx.eval rfl ha, hy.eval rfl ha, Sem.run_bind, this]
end
theorem In.elA {w : World} {a : Option Addr} {α : Type} {enc : α → List Value} {m : Nat} {dv : α} [he : Enc enc m dv] {xs : List α} {i : Int} (h : In w a (xs.flatMap enc)) (h0 : 0 ≤ i) (h1 : i < xs.length) : ∃ q, elt a m i.toNat 0 = some q ∧ In w (some q) (enc (xs.getD i.toNat dv)) := by
  have hd := h.drop he.hm i.toNat (by omega)
  have e : xs.drop i.toNat = xs.getD i.toNat dv :: xs.drop (i.toNat + 1) := by
    rw [List.getD_eq_getElem?_getD, List.getElem?_eq_getElem (by omega), List.drop_eq_getElem_cons (by omega)]; rfl
  rw [e, List.flatMap_cons] at hd
  have h2 := hd.pre
  have hne : enc (xs.getD i.toNat dv) ≠ [] := fun e => by have := he.hm (xs.getD i.toNat dv); have h3 := he.pos; rw [e] at this; simp at this; omega
  obtain ⟨q, hq⟩ := h2.adr hne
  exact ⟨q, hq, hq ▸ h2⟩
set_option maxRecDepth 100000 in
theorem sc_Show (us : List Ac) (a : Option Addr) (cc : Nat) (w : World) (hl : In w a (us.flatMap encA)) (hz : AsSz us) (ht : Tab10 w) : Fn Tryd.prog 31 [.slice a us.length cc] w [] fun v L' => v = .tuple #[.string (S (showP us).1), .int .i64 (showP us).2] ∧ L' = [] := by
  have row := Row.ofE (dv := dA) hl
  have hal := hz.hl
  refine Fn.enter Tryd.func31 rfl rfl rfl rfl (Holds.nil w) ?_
  refine CW.seq ?_
  refine CW.region ?_
  refine W.p O.as ?_
  refine W.p O.as ?_
  refine WL.nil (Q.tn ?_)
  refine CW.seq ?_
  refine CW.region ?_
  refine W.p O.mv ?_
  refine W.p O.lenL ?_
  refine W.p O.min ?_
  refine W.mkO rfl (vt rfl) (vt rfl) (min us.length 256) (by omega) (by omega) (by omega) rfl fun b1 => ?_
  refine W.p O.as ?_
  refine WL.nil (Q.tn ?_)
  refine CW.seq ?_
  refine CW.seq ?_
  refine CW.region ?_
  refine W.p O.mv ?_
  refine W.p O.lenL ?_
  refine W.p O.mv ?_
  refine WL.nil (Q.tn ?_)
  refine CW.block ?_
  refine CW.loopA (X := Int × (List (List UInt8)) × (Option Nat) × Nat × (List Value)) (fun ⟨i, out, o, ca, sp⟩ => [(0, true, .slice a us.length cc), (4, true, .slice (oa o) out.length ca), (11, true, .int .i64 us.length), (12, true, .int .i64 i)]) (fun ⟨i, out, o, ca, sp⟩ => rowL o 9 (flat encS out sp)) (fun ⟨i, out, o, ca, sp⟩ => 0 ≤ i ∧ i ≤ us.length ∧ i ≤ 256 ∧ OwnOk o ca 1 out.length sp.length ∧ out = (us.take i.toNat).map acT ∧ (us.take i.toNat).all acMay = true) (fun ⟨i, out, o, ca, sp⟩ => (us.length - i).toNat) (0, [], some b1, _, _) ?_ ?_
  · exact ⟨by omega, by omega, by omega, ⟨by simp, by simp, by simp, by unfold maxLen; omega⟩, by simp, by simp⟩
  rintro ⟨i, out, o, ca, sp⟩ hI
  try dsimp only at hI ⊢
  obtain ⟨h0, h1, h6, hok, hout, hall⟩ := hI
  have nk := hok.nk
  have hol : out.length ≤ i := by rw [hout, List.length_map, List.length_take]; omega
  refine CW.seq ?_
  refine CW.region ?_
  refine W.p O.lss ?_
  refine WL.nil (Q.tn ?_)
  refine CW.seq ?_
  refine CW.cond (vt rfl) (fun hc1 => ?_) (fun hc1 => ?_)
  · try simp only [sk] at hc1
    obtain ⟨q, hq, hqi⟩ := hl.elA (m := 5) (dv := dA) h0 hc1
    have htx := hz.ht _ (mem_at dA h0 hc1)
    refine CW.skip (Q.tn ?_)
    refine CW.seq ?_
    refine CW.block ?_
    refine CW.seq ?_
    refine CW.region ?_
    refine W.p O.mv ?_
    refine W.p O.as ?_
    refine WL.nil (Q.tn ?_)
    refine CW.seq ?_
    refine CW.seq ?_
    refine CW.region ?_
    refine W.p O.mv ?_
    refine W.p O.eqI ?_
    refine W.p O.mv ?_
    refine W.p O.mv ?_
    refine W.p O.mv ?_
    refine W.p O.ixA ?_
    refine W.p O.ldsE ?_
    refine W.q (O.call ⟨rfl, rfl⟩ (AV.cons (vs rfl) (AV.nil)) (fun _ w hw => sc_May _ w (by omega))) ?_
    refine W.p O.nt ?_
    refine W.p O.pkB ?_
    refine WL.nil (Q.tn ?_)
    refine CW.cond (vt rfl) (fun hc2 => ?_) (fun hc2 => ?_)
    · try simp only [sk] at hc2
      refine CW.seq ?_
      refine CW.region ?_
      refine W.p O.as ?_
      refine W.p O.as ?_
      refine WL.nil (Q.tn ?_)
      refine CW.ret (Q.tr (Q.br (Q.tr (Q.tr (Q.br (Q.tr ?_))))))
      refine ⟨_, [], (RVs.tmp rfl (RVs.tmp rfl RVs.nil)), List.nil_sublist _, ?_⟩
      refine ⟨?_, rfl⟩
      have hno : showOk us = false := by
        rw [showOk, Bool.and_eq_false_iff]
        rcases hc2 with h | h
        · exact .inr (decide_eq_false (by omega))
        · exact .inl (List.all_eq_false.2 ⟨_, mem_at dA h0 hc1, by rw [h]; decide⟩)
      rw [showP, if_neg (by rw [hno]; decide)]; rfl
    try simp only [sk] at hc2
    obtain ⟨_, _, hb, hc, hk⟩ := may_ac hc2.2
    refine CW.skip (Q.tn ?_)
    refine CW.region ?_
    refine W.p O.mv ?_
    refine W.p O.mv ?_
    refine W.p O.mv ?_
    refine W.p O.ixA ?_
    refine W.q (O.call ⟨rfl, rfl⟩ (AV.cons (vt rfl) (AV.nil)) (fun _ w hw => (by rw [hq]; exact sc_show (us.getD i.toNat dA) w (hqi.upd (L0 := []) hw) htx ⟨by omega, by omega⟩ ⟨by omega, by omega⟩ ⟨by omega, by omega⟩ (ht.upd hw)))) ?_
    refine W.bs encS [_] rfl (PV.cons (vt rfl) (PV.nil)) rfl rfl rfl (by decide) rfl fun b2 => ?_
    refine W.ap rfl (vt rfl) (vt rfl) (by first | rfl | omega) (by first | rfl | omega) rfl (by first | assumption | exact OwnOk.nil | exact OwnOk.lit) (by first | omega | (simp; omega)) fun o1 c1 sp1 ok1 ne1 gt1 => ?_
    have nk1 := ok1.nk; have le1 := ok1.2.2.1; try simp only [List.length_append, List.length_cons, List.length_nil] at le1
    refine W.p O.as ?_
    refine WL.nil (Q.bn (Q.tn ?_))
    refine CW.region ?_
    first | refine W.p O.addN ?_ | refine W.p O.add ?_
    refine W.p O.mv ?_
    refine WL.nil (Q.tn ?_)
    refine nextA (_, out ++ [acT (us.getD i.toNat dA)], _, _, _) ?_ ?_
    · try dsimp only
      refine ⟨by omega, by omega, by omega, by assumption, ?_, ?_⟩
      · rw [take_at' dA h0 hc1, List.map_append, hout]; rfl
      · rw [take_at' dA h0 hc1, List.all_append, hall]; simpa using hc2.2
    · try dsimp only
      omega
  try simp only [sk] at hc1
  have hfl : out.flatten = shows us := by rw [hout, List.take_of_length_le (by omega)]; simp [shows, List.flatMap_def]
  have hall2 : us.all acMay = true := by rw [List.take_of_length_le (by omega)] at hall; exact hall
  have hsl := shows_len hall2
  rw [← hfl] at hsl
  refine CW.exit (Q.te (Q.te (Q.bx (Q.tn ?_))))
  refine CW.seq ?_
  refine CW.region ?_
  refine W.p O.mv ?_
  refine W.q (O.call ⟨rfl, rfl⟩ (AV.cons (vt rfl) (AV.cons (vt rfl) (AV.nil))) (fun _ w hw => st_JoinE out _ _ w (RowL.h _ hw) hok.2.2.1 (by omega))) ?_
  refine W.p O.as ?_
  refine W.p O.as ?_
  refine WL.nil (Q.tn ?_)
  refine CW.ret ?_
  refine ⟨_, [], (RVs.tmp rfl (RVs.tmp rfl RVs.nil)), List.nil_sublist _, ?_⟩
  refine ⟨?_, rfl⟩
  rw [showP, if_pos (by rw [showOk, hall2, Bool.true_and]; exact decide_eq_true (by omega)), hfl]; rfl
end Go.Proofs.YtagiajnpnjakhaaDoor
