/- What the document's Num comes to, and what bytes of numbers are. Condition: at most eight bytes. -/
import Derived.Test.YtkjcmdgideddnaaArr
import Derived.Test.YtkjcmdgideddnaaPBe
set_option linter.unusedVariables false
set_option linter.unusedSimpArgs false
namespace Go.Proofs.Ytkjcmdgideddnaa
open Go Go.RowKit
theorem byteOf_cast (n : Nat) : byteOf n = UInt8.ofNat n := by
  apply UInt8.toNat_inj.1
  simp [byteOf]; omega
theorem beb_one (x : Int) : beb x 1 = [byteOf x] := rfl
theorem beb_cons : ∀ (m : Nat) (x : Int), beb x (m + 1) = byteOf (x / 256 ^ m) :: beb x m
  | 0, x => by simp [beb]
  | m + 1, x => by
    rw [beb, beb_cons m (x / 256), beb, List.cons_append, Int.ediv_ediv_of_nonneg (by decide), Int.pow_succ, Int.mul_comm]
theorem shr8 (v : Int) {i : Int} (h : 0 ≤ i) : v / 2 ^ (8 * i).toNat = v / 256 ^ i.toNat := by
  rw [show (8 * i).toNat = 8 * i.toNat by omega, Int.pow_mul]; rfl
theorem own_some {o : Option Nat} {c m n s : Nat} (ok : OwnOk o c m n s) (h : n ≠ 0) : ∃ b, o = some b := by
  cases o with | none => exact absurd (ok.1 rfl).1 h | some b => exact ⟨b, rfl⟩
set_option maxRecDepth 100000 in
theorem ref_Num (v : Int) (n : Nat) (w : World) (h1 : 1 ≤ n) (hn : n ≤ 8) : Fn Try.prog 97 [.int .i64 v, .int .i64 n] w [] fun r L' => r = .string (S (beb v n)) ∧ L' = [] := by
  refine Fn.enter Try.func97 rfl rfl rfl rfl (Holds.nil w) ?_
  refine CW.seq ?_
  refine CW.region ?_
  refine W.p O.as ?_
  refine WL.nil (Q.tn ?_)
  refine CW.seq ?_
  refine CW.region ?_
  refine W.p O.as ?_
  refine WL.nil (Q.tn ?_)
  refine CW.seq ?_
  refine CW.seq ?_
  refine CW.region ?_
  refine W.p O.mv ?_
  first | refine W.p O.subN ?_ | refine W.p O.sub ?_
  refine W.p O.as ?_
  refine WL.nil (Q.tn ?_)
  refine CW.block ?_
  refine CW.loop (X := Int × (List UInt8) × (Option Nat) × Nat × (List Value)) (fun ⟨i, out, o, cc, sp⟩ => [(0, true, .int .i64 v), (5, true, .slice (oa o) out.length cc), (6, true, .int .i64 i)]) (fun ⟨i, out, o, cc, sp⟩ => rowL o 5 (flat encB out sp)) (fun ⟨i, out, o, cc, sp⟩ => -1 ≤ i ∧ i < n ∧ beb v n = out ++ beb v (i + 1).toNat ∧ OwnOk o cc 1 out.length sp.length ∧ out.length = n - (i + 1)) (fun ⟨i, out, o, cc, sp⟩ => (i + 1).toNat) ((n : Int) - 1, [], none, 0, []) ?_ (by repeat (first | exact trivial | refine ⟨rfl, ?_⟩ | refine ⟨by (simp only [List.length_set]; rfl), ?_⟩)) (by repeat (first | exact List.Sublist.refl _ | exact List.sublist_append_left _ _ | exact List.nil_sublist _ | refine List.Sublist.append (List.Sublist.refl _) ?_ | apply List.Sublist.cons_cons | apply List.Sublist.cons | refine List.Sublist.trans ?_ (List.sublist_append_right _ _))) ?_
  · exact ⟨by omega, by omega, by simp, OwnOk.nil, by simp⟩
  rintro ⟨i, out, o, cc, sp⟩ hI
  try dsimp only at hI ⊢
  obtain ⟨h0, h2, hb, ok, hl⟩ := hI
  have nk := ok.nk
  refine CW.seq ?_
  refine CW.seq ?_
  refine CW.region ?_
  refine W.p O.mv ?_
  refine W.p O.geq ?_
  refine WL.nil (Q.tn ?_)
  refine CW.cond (vt rfl) (fun hc1 => ?_) (fun hc1 => ?_)
  · try simp only [Bool.cond_true_left, Bool.cond_false_right, Bool.or_eq_true, Bool.or_eq_false_iff, Bool.and_eq_true, Bool.and_eq_false_iff, decide_eq_true_eq, decide_eq_false_iff_not, Bool.not_eq_true', Bool.not_eq_false'] at hc1
    refine CW.skip (Q.tn ?_)
    refine CW.seq ?_
    refine CW.block ?_
    refine CW.region ?_
    refine W.p O.mv ?_
    refine W.p O.mv ?_
    refine W.p O.mv ?_
    first | refine W.p O.mulN ?_ | refine W.p O.mul ?_
    refine W.p O.shr ?_
    refine W.p O.cvI8 ?_
    refine W.bs encB [_] rfl (PV.cons (vt rfl) (PV.nil)) rfl rfl rfl (by decide) rfl fun b1 => ?_
    refine W.ap rfl (vt rfl) (vt rfl) (by first | rfl | omega) (by first | rfl | omega) rfl (by first | assumption | exact OwnOk.nil | exact OwnOk.lit) (by first | omega | (simp; omega)) fun o1 c1 sp1 ok1 ne1 gt1 => ?_
    have nk1 := ok1.nk; have le1 := ok1.2.2.1; try simp only [List.length_append, List.length_cons, List.length_nil] at le1
    refine W.p O.as ?_
    refine WL.nil (Q.bn (Q.tn ?_))
    refine CW.region ?_
    refine W.p O.mv ?_
    first | refine W.p O.subN ?_ | refine W.p O.sub ?_
    refine W.p O.as ?_
    refine WL.nil (Q.tn ?_)
    refine ⟨(_, out ++ [byteOf (v / 2 ^ (8 * i).toNat)], _, _, _), ?_, ?_, (by repeat (first | exact trivial | refine ⟨rfl, ?_⟩ | refine ⟨by (simp only [List.length_set]; rfl), ?_⟩)), (by repeat (first | exact List.Sublist.refl _ | exact List.sublist_append_left _ _ | exact List.nil_sublist _ | refine List.Sublist.append (List.Sublist.refl _) ?_ | apply List.Sublist.cons_cons | apply List.Sublist.cons | refine List.Sublist.trans ?_ (List.sublist_append_right _ _)))⟩
    · try dsimp only
      refine ⟨by omega, by omega, ?_, by assumption, by simp; omega⟩
      rw [hb, show (i + 1).toNat = i.toNat + 1 by omega, beb_cons, shr8 v hc1, show (i - 1 + 1).toNat = i.toNat by omega]; simp
    · try dsimp only
      omega
  try simp only [Bool.cond_true_left, Bool.cond_false_right, Bool.or_eq_true, Bool.or_eq_false_iff, Bool.and_eq_true, Bool.and_eq_false_iff, decide_eq_true_eq, decide_eq_false_iff_not, Bool.not_eq_true', Bool.not_eq_false'] at hc1
  obtain ⟨bo, rfl⟩ := own_some ok (by omega)
  refine CW.exit (Q.te (Q.te (Q.bx (Q.tn ?_))))
  refine CW.seq ?_
  refine CW.region ?_
  refine W.p O.mv ?_
  refine W.p (O.cvRow ⟨rfl, rfl⟩ (vt rfl) (by first | rfl | omega) (fun _ => ⟨_, rfl⟩)) ?_
  refine W.p O.as ?_
  refine WL.nil (Q.tn ?_)
  refine CW.ret ?_
  refine ⟨_, [], (RVs.tmp rfl RVs.nil), List.nil_sublist _, ?_⟩
  refine ⟨?_, rfl⟩
  rw [hb, show (i + 1).toNat = 0 by omega]; simp [beb, oneOr]
theorem drop_at {α : Type} (d : α) {xs : List α} {i : Int} (h0 : 0 ≤ i) (h1 : i < xs.length) : xs.drop i.toNat = xs.getD i.toNat d :: xs.drop (i + 1).toNat := by
  have h : i.toNat < xs.length := by omega
  rw [List.drop_eq_getElem_cons h, show (i + 1).toNat = i.toNat + 1 by omega, List.getD_eq_getElem?_getD, List.getElem?_eq_getElem h]; rfl
theorem drop_end {α : Type} {xs : List α} {i : Int} (h1 : ¬ i < xs.length) : xs.drop i.toNat = [] := List.drop_eq_nil_of_le (by omega)
end Go.Proofs.Ytkjcmdgideddnaa
