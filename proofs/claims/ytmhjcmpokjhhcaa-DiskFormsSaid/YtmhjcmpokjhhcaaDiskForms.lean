/- What pinfoldlaw22.DiskForms answers: true. No condition. -/
import Derived.Test.YtmhjcmpokjhhcaaDiskSwaps
import Derived.Test.YtmhjcmpokjhhcaaSlices
set_option linter.unusedVariables false
set_option linter.unusedSimpArgs false
namespace Go.Proofs.Ytmhjcmpokjhhcaa
open Go Go.RowKit
abbrev encD : Dk → List Value := fun d => [.string (S d.log), .int .i64 d.syn, .bool d.bes, .string (S d.nxt), .int .i64 d.kep]
instance : Enc encD 5 Dk.zero := ⟨fun _ => rfl, by decide⟩
def badsOf (d : Int) : List Dk := [⟨[], d, false, [], 0⟩, ⟨[], -d, false, [], 0⟩, ⟨[], 0, false, [], d⟩, ⟨[], 0, false, [], -d⟩, ⟨[], 0, false, [120], 0⟩, ⟨[], 0, true, [120], 1 + d⟩, ⟨List.replicate (2048 + d).toNat 0, 0, false, [], 0⟩, ⟨List.replicate 2048 0, 0, true, [120], 0⟩]
theorem bads_may {d : Int} (hd : 1 ≤ d) (hd2 : d ≤ 2000) : ∀ b ∈ badsOf d, b.may = false ∧ b.log.length ≤ top ∧ b.nxt.length ≤ top := by
  intro b hb
  simp only [badsOf, List.mem_cons, List.not_mem_nil, or_false] at hb
  have h : ∀ b : Dk, (¬ b.may = true) ∧ b.log.length ≤ top ∧ b.nxt.length ≤ top → b.may = false ∧ b.log.length ≤ top ∧ b.nxt.length ≤ top := fun b h => ⟨by simpa using h.1, h.2⟩
  apply h
  rw [Dk.may_iff]
  rcases hb with rfl | rfl | rfl | rfl | rfl | rfl | rfl | rfl <;> simp only [List.length_nil, List.length_cons, List.length_replicate, top, Bool.false_eq_true, false_or, true_and, List.cons_ne_nil, false_and, not_false_iff] <;> first | omega | (refine ⟨?_, ?_⟩ <;> omega)
theorem bads_at {d : Int} (hd : 1 ≤ d) (hd2 : d ≤ 2000) {j : Nat} (hj : j < 8) : ((badsOf d).getD j Dk.zero).may = false ∧ ((badsOf d).getD j Dk.zero).log.length ≤ top ∧ ((badsOf d).getD j Dk.zero).nxt.length ≤ top := by
  refine bads_may hd hd2 _ ?_
  rw [List.getD_eq_getElem?_getD, List.getElem?_eq_getElem (show j < (badsOf d).length from hj)]
  exact List.getElem_mem _
theorem u64_nonneg (x : Int) : 0 ≤ IntKind.u64.wrap x := by
  have : IntKind.u64.wrap x = x % 18446744073709551616 := rfl
  omega
set_option maxRecDepth 100000 in
theorem law22_DiskForms (which x : Int) (w : World) :
    Fn Try.prog 5 [.int .i64 which, .int .i64 x] w [] fun v L' => v = .bool true ∧ L' = [] := by
  have hu := u64_nonneg which
  have hq : IntKind.i64.wrap (IntKind.u64.wrap which % 8) = IntKind.u64.wrap which % 8 := wrap_in _ (by omega)
  have hb := bads_at (d := 1 + x % 1024) (by omega) (by omega) (j := (IntKind.i64.wrap (IntKind.u64.wrap which % 8)).toNat) (by omega)
  obtain ⟨hm, hb1, hb2⟩ := hb
  have hlen : (badsOf (1 + x % 1024)).length = 8 := rfl
  refine Fn.enter Try.func5 rfl rfl rfl rfl (Holds.nil w) ?_
  refine CW.seq ?_
  refine CW.region ?_
  refine W.q (QV.q (O.as ⟨rfl, rfl⟩ (vt rfl))) ?_
  refine WL.nil (Q.tn ?_)
  refine CW.seq ?_
  refine CW.seq ?_
  refine CW.region ?_
  refine W.q (O.call ⟨rfl, rfl⟩ (AV.nil) (fun _ w hw => law22_awake w)) ?_
  refine W.q (QV.q (O.nt ⟨rfl, rfl⟩ (vt rfl))) ?_
  refine WL.nil (Q.tn ?_)
  refine CW.cond (vt rfl) (fun hc1 => ?_) (fun hc1 => ?_)
  · refine CW.seq ?_
    refine CW.region ?_
    refine W.q (QV.q (O.as ⟨rfl, rfl⟩ (vt rfl))) ?_
    refine WL.nil (Q.tn ?_)
    refine CW.ret (Q.tr ?_)
    refine ⟨_, [], (RVs.tmp rfl RVs.nil), List.nil_sublist _, ?_⟩
    refine ⟨congrArg Value.bool ?_, rfl⟩
    first | (exfalso; cases hc1; done) | skip
    all_goals
      generalize (badsOf (1 + x % 1024)).getD (IntKind.i64.wrap (IntKind.u64.wrap which % 8)).toNat Dk.zero = b at *
      have f1 : decide (0 ≤ -(1 + x % 1024)) = false := by simp; omega
      simp only [Dk.eta, Dk.turned_no (.inl hm), hm, f1]
      show (_ : Bool) = true
      first | kernel_rfl | rfl
  · refine CW.skip (Q.tn ?_)
    refine CW.seq ?_
    refine CW.region ?_
    refine W.q (QV.q (O.mv ⟨rfl, rfl⟩ (vt rfl))) ?_
    refine W.q (QV.q (O.andM 10 1024 ⟨rfl, rfl⟩ (vt rfl) (vt rfl) (by decide) (by decide) (by decide))) ?_
    first | refine W.q (QV.q (O.addN ⟨rfl, rfl⟩ (vt rfl) (vt rfl) (fun _ => by omega))) ?_ | refine W.q (QV.q (O.add ⟨rfl, rfl⟩ (vt rfl) (vt rfl))) ?_
    refine W.q (QV.q (O.as ⟨rfl, rfl⟩ (vt rfl))) ?_
    refine WL.nil (Q.tn ?_)
    refine CW.join (X := Nat) (fun b => [(0, true, .int .i64 which), (1, true, .int .i64 x), (5, true, .int .i64 (1 + x % 1024)), (6, true, .slice (some ⟨b, 0, none⟩) 8 8)]) (fun b => [(b, .cells (flat encD (badsOf (1 + x % 1024)) []).toArray 23 (0, 0))]) (fun _ => True) ?_ ?_
    · refine CW.drawHL rfl ?_
      refine RH.q 0 (fun _ _ _ h => h) rfl (by kernel_rfl) (by repeat (first | exact List.nil_sublist _ | exact List.Sublist.refl _ | apply List.Sublist.cons₂ | apply List.Sublist.cons)) (O.mv ⟨rfl, rfl⟩ (vt rfl)) ?_
      refine RH.q 1 (fun _ _ _ h => h) rfl (by kernel_rfl) (by repeat (first | exact List.nil_sublist _ | exact List.Sublist.refl _ | apply List.Sublist.cons₂ | apply List.Sublist.cons)) (O.bd ⟨rfl, rfl⟩ (PV.cons (vt rfl) (PV.nil))) ?_
      refine RH.q 2 (fun _ _ _ h => h) rfl (by kernel_rfl) (by repeat (first | exact List.nil_sublist _ | exact List.Sublist.refl _ | apply List.Sublist.cons₂ | apply List.Sublist.cons)) (O.mv ⟨rfl, rfl⟩ (vt rfl)) ?_
      first | refine RH.q 3 (fun _ _ _ h => h) rfl (by kernel_rfl) (by repeat (first | exact List.nil_sublist _ | exact List.Sublist.refl _ | apply List.Sublist.cons₂ | apply List.Sublist.cons)) (O.ngN ⟨rfl, rfl⟩ (vt rfl) (fun _ => by omega)) ?_ | refine RH.q 3 (fun _ _ _ h => h) rfl (by kernel_rfl) (by repeat (first | exact List.nil_sublist _ | exact List.Sublist.refl _ | apply List.Sublist.cons₂ | apply List.Sublist.cons)) (O.ng ⟨rfl, rfl⟩ (vt rfl)) ?_
      refine RH.q 4 (fun _ _ _ h => h) rfl (by kernel_rfl) (by repeat (first | exact List.nil_sublist _ | exact List.Sublist.refl _ | apply List.Sublist.cons₂ | apply List.Sublist.cons)) (O.bd ⟨rfl, rfl⟩ (PV.cons (vt rfl) (PV.nil))) ?_
      refine RH.q 5 (fun _ _ _ h => h) rfl (by kernel_rfl) (by repeat (first | exact List.nil_sublist _ | exact List.Sublist.refl _ | apply List.Sublist.cons₂ | apply List.Sublist.cons)) (O.mv ⟨rfl, rfl⟩ (vt rfl)) ?_
      refine RH.q 6 (fun _ _ _ h => h) rfl (by kernel_rfl) (by repeat (first | exact List.nil_sublist _ | exact List.Sublist.refl _ | apply List.Sublist.cons₂ | apply List.Sublist.cons)) (O.bd ⟨rfl, rfl⟩ (PV.cons (vt rfl) (PV.nil))) ?_
      refine RH.q 7 (fun _ _ _ h => h) rfl (by kernel_rfl) (by repeat (first | exact List.nil_sublist _ | exact List.Sublist.refl _ | apply List.Sublist.cons₂ | apply List.Sublist.cons)) (O.mv ⟨rfl, rfl⟩ (vt rfl)) ?_
      first | refine RH.q 8 (fun _ _ _ h => h) rfl (by kernel_rfl) (by repeat (first | exact List.nil_sublist _ | exact List.Sublist.refl _ | apply List.Sublist.cons₂ | apply List.Sublist.cons)) (O.ngN ⟨rfl, rfl⟩ (vt rfl) (fun _ => by omega)) ?_ | refine RH.q 8 (fun _ _ _ h => h) rfl (by kernel_rfl) (by repeat (first | exact List.nil_sublist _ | exact List.Sublist.refl _ | apply List.Sublist.cons₂ | apply List.Sublist.cons)) (O.ng ⟨rfl, rfl⟩ (vt rfl)) ?_
      refine RH.q 9 (fun _ _ _ h => h) rfl (by kernel_rfl) (by repeat (first | exact List.nil_sublist _ | exact List.Sublist.refl _ | apply List.Sublist.cons₂ | apply List.Sublist.cons)) (O.bd ⟨rfl, rfl⟩ (PV.cons (vt rfl) (PV.nil))) ?_
      refine RH.q 10 (fun _ _ _ h => h) rfl (by kernel_rfl) (by repeat (first | exact List.nil_sublist _ | exact List.Sublist.refl _ | apply List.Sublist.cons₂ | apply List.Sublist.cons)) (O.bd ⟨rfl, rfl⟩ (PV.cons (vt rfl) (PV.nil))) ?_
      refine RH.q 11 (fun _ _ _ h => h) rfl (by kernel_rfl) (by repeat (first | exact List.nil_sublist _ | exact List.Sublist.refl _ | apply List.Sublist.cons₂ | apply List.Sublist.cons)) (O.mv ⟨rfl, rfl⟩ (vt rfl)) ?_
      first | refine RH.q 12 (fun _ _ _ h => h) rfl (by kernel_rfl) (by repeat (first | exact List.nil_sublist _ | exact List.Sublist.refl _ | apply List.Sublist.cons₂ | apply List.Sublist.cons)) (O.addN ⟨rfl, rfl⟩ (vt rfl) (vt rfl) (fun _ => by omega)) ?_ | refine RH.q 12 (fun _ _ _ h => h) rfl (by kernel_rfl) (by repeat (first | exact List.nil_sublist _ | exact List.Sublist.refl _ | apply List.Sublist.cons₂ | apply List.Sublist.cons)) (O.add ⟨rfl, rfl⟩ (vt rfl) (vt rfl)) ?_
      refine RH.q 13 (fun _ _ _ h => h) rfl (by kernel_rfl) (by repeat (first | exact List.nil_sublist _ | exact List.Sublist.refl _ | apply List.Sublist.cons₂ | apply List.Sublist.cons)) (O.bd ⟨rfl, rfl⟩ (PV.cons (vt rfl) (PV.cons (vt rfl) (PV.cons (vt rfl) (PV.nil))))) ?_
      refine RH.q 14 (fun _ _ _ h => h) rfl (by kernel_rfl) (by repeat (first | exact List.nil_sublist _ | exact List.Sublist.refl _ | apply List.Sublist.cons₂ | apply List.Sublist.cons)) (O.mv ⟨rfl, rfl⟩ (vt rfl)) ?_
      first | refine RH.q 15 (fun _ _ _ h => h) rfl (by kernel_rfl) (by repeat (first | exact List.nil_sublist _ | exact List.Sublist.refl _ | apply List.Sublist.cons₂ | apply List.Sublist.cons)) (O.addN ⟨rfl, rfl⟩ (vt rfl) (vt rfl) (fun _ => by omega)) ?_ | refine RH.q 15 (fun _ _ _ h => h) rfl (by kernel_rfl) (by repeat (first | exact List.nil_sublist _ | exact List.Sublist.refl _ | apply List.Sublist.cons₂ | apply List.Sublist.cons)) (O.add ⟨rfl, rfl⟩ (vt rfl) (vt rfl)) ?_
      refine RH.two (i := 16) (j := 19) (fun _ _ h => h) (by kernel_rfl) rfl rfl ?_ ?_
      · refine W.mkB rfl (vt rfl) (vt rfl) (by first | omega | decide) fun b1 => ?_
        refine WL.nilQn ⟨(by repeat (first | exact List.nil_sublist _ | exact List.Sublist.refl _ | apply List.Sublist.cons₂ | apply List.Sublist.cons)), ?_⟩
        refine RH.two (i := 17) (j := 19) (fun _ _ h => h) (by kernel_rfl) rfl rfl ?_ ?_
        · first | refine W.q (QV.q (O.cvBZ ⟨rfl, rfl⟩ (vt rfl) (by first | exact Nat.le_refl _ | omega))) ?_ | refine W.q (QV.q (O.cvBA ⟨rfl, rfl⟩ (vt rfl))) ?_ | refine W.q (QV.q (O.cvBS ⟨rfl, rfl⟩ (vt rfl) (fun _ => by omega))) ?_
          refine WL.nilQn ⟨(by repeat (first | exact List.nil_sublist _ | exact List.Sublist.refl _ | apply List.Sublist.cons₂ | apply List.Sublist.cons)), ?_⟩
          refine RH.q 18 (fun _ _ _ h => h) rfl (by kernel_rfl) (by repeat (first | exact List.nil_sublist _ | exact List.Sublist.refl _ | apply List.Sublist.cons₂ | apply List.Sublist.cons)) (O.bd ⟨rfl, rfl⟩ (PV.cons (vt rfl) (PV.nil))) ?_
          refine RH.one (i := 19) (fun _ _ h => h) (by kernel_rfl) rfl ?_
          refine W.mkB rfl (vt rfl) (vt rfl) (by first | omega | decide) fun b2 => ?_
          refine WL.nilQn ⟨(by repeat (first | exact List.nil_sublist _ | exact List.Sublist.refl _ | apply List.Sublist.cons₂ | apply List.Sublist.cons)), ?_⟩
          refine RH.one (i := 20) (fun _ _ h => h) (by kernel_rfl) rfl ?_
          first | refine W.q (QV.q (O.cvBZ ⟨rfl, rfl⟩ (vt rfl) (by first | exact Nat.le_refl _ | omega))) ?_ | refine W.q (QV.q (O.cvBA ⟨rfl, rfl⟩ (vt rfl))) ?_ | refine W.q (QV.q (O.cvBS ⟨rfl, rfl⟩ (vt rfl) (fun _ => by omega))) ?_
          refine WL.nilQn ⟨(by repeat (first | exact List.nil_sublist _ | exact List.Sublist.refl _ | apply List.Sublist.cons₂ | apply List.Sublist.cons)), ?_⟩
          refine RH.q 21 (fun _ _ _ h => h) rfl (by kernel_rfl) (by repeat (first | exact List.nil_sublist _ | exact List.Sublist.refl _ | apply List.Sublist.cons₂ | apply List.Sublist.cons)) (O.bd ⟨rfl, rfl⟩ (PV.cons (vt rfl) (PV.cons (vt rfl) (PV.cons (vt rfl) (PV.nil))))) ?_
          refine RH.one (i := 22) (fun _ _ h => h) (by kernel_rfl) rfl ?_
          refine W.bs encD (badsOf (1 + x % 1024)) rfl (PV.cons (vt rfl) (PV.cons (vt rfl) (PV.cons (vt rfl) (PV.cons (vt rfl) (PV.cons (vt rfl) (PV.cons (vt rfl) (PV.cons (vt rfl) (PV.cons (vt rfl) (PV.nil))))))))) rfl rfl rfl (by decide) rfl fun b3 => ?_
          refine WL.nilQn ⟨(by repeat (first | exact List.nil_sublist _ | exact List.Sublist.refl _ | apply List.Sublist.cons₂ | apply List.Sublist.cons)), ?_⟩
          refine RH.q 23 (fun _ _ _ h => h) rfl (by kernel_rfl) (by repeat (first | exact List.nil_sublist _ | exact List.Sublist.refl _ | apply List.Sublist.cons₂ | apply List.Sublist.cons)) (O.as ⟨rfl, rfl⟩ (vt rfl)) ?_
          refine RH.done (by kernel_rfl) (Q.tn ?_)
          refine ⟨_, trivial, ⟨rfl, rfl, rfl, rfl, trivial⟩, ?_⟩
          first | exact List.Sublist.refl _ | exact List.Sublist.cons_cons _ (List.nil_sublist _)
        · refine W.mkB rfl (vt rfl) (vt rfl) (by first | omega | decide) fun b4 => ?_
          refine WL.nilQn ⟨(by repeat (first | exact List.nil_sublist _ | exact List.Sublist.refl _ | apply List.Sublist.cons₂ | apply List.Sublist.cons)), ?_⟩
          refine RH.two (i := 17) (j := 20) (fun _ _ h => h) (by kernel_rfl) rfl rfl ?_ ?_
          · first | refine W.q (QV.q (O.cvBZ ⟨rfl, rfl⟩ (vt rfl) (by first | exact Nat.le_refl _ | omega))) ?_ | refine W.q (QV.q (O.cvBA ⟨rfl, rfl⟩ (vt rfl))) ?_ | refine W.q (QV.q (O.cvBS ⟨rfl, rfl⟩ (vt rfl) (fun _ => by omega))) ?_
            refine WL.nilQn ⟨(by repeat (first | exact List.nil_sublist _ | exact List.Sublist.refl _ | apply List.Sublist.cons₂ | apply List.Sublist.cons)), ?_⟩
            refine RH.q 18 (fun _ _ _ h => h) rfl (by kernel_rfl) (by repeat (first | exact List.nil_sublist _ | exact List.Sublist.refl _ | apply List.Sublist.cons₂ | apply List.Sublist.cons)) (O.bd ⟨rfl, rfl⟩ (PV.cons (vt rfl) (PV.nil))) ?_
            refine RH.one (i := 20) (fun _ _ h => h) (by kernel_rfl) rfl ?_
            first | refine W.q (QV.q (O.cvBZ ⟨rfl, rfl⟩ (vt rfl) (by first | exact Nat.le_refl _ | omega))) ?_ | refine W.q (QV.q (O.cvBA ⟨rfl, rfl⟩ (vt rfl))) ?_ | refine W.q (QV.q (O.cvBS ⟨rfl, rfl⟩ (vt rfl) (fun _ => by omega))) ?_
            refine WL.nilQn ⟨(by repeat (first | exact List.nil_sublist _ | exact List.Sublist.refl _ | apply List.Sublist.cons₂ | apply List.Sublist.cons)), ?_⟩
            refine RH.q 21 (fun _ _ _ h => h) rfl (by kernel_rfl) (by repeat (first | exact List.nil_sublist _ | exact List.Sublist.refl _ | apply List.Sublist.cons₂ | apply List.Sublist.cons)) (O.bd ⟨rfl, rfl⟩ (PV.cons (vt rfl) (PV.cons (vt rfl) (PV.cons (vt rfl) (PV.nil))))) ?_
            refine RH.one (i := 22) (fun _ _ h => h) (by kernel_rfl) rfl ?_
            refine W.bs encD (badsOf (1 + x % 1024)) rfl (PV.cons (vt rfl) (PV.cons (vt rfl) (PV.cons (vt rfl) (PV.cons (vt rfl) (PV.cons (vt rfl) (PV.cons (vt rfl) (PV.cons (vt rfl) (PV.cons (vt rfl) (PV.nil))))))))) rfl rfl rfl (by decide) rfl fun b5 => ?_
            refine WL.nilQn ⟨(by repeat (first | exact List.nil_sublist _ | exact List.Sublist.refl _ | apply List.Sublist.cons₂ | apply List.Sublist.cons)), ?_⟩
            refine RH.q 23 (fun _ _ _ h => h) rfl (by kernel_rfl) (by repeat (first | exact List.nil_sublist _ | exact List.Sublist.refl _ | apply List.Sublist.cons₂ | apply List.Sublist.cons)) (O.as ⟨rfl, rfl⟩ (vt rfl)) ?_
            refine RH.done (by kernel_rfl) (Q.tn ?_)
            refine ⟨_, trivial, ⟨rfl, rfl, rfl, rfl, trivial⟩, ?_⟩
            first | exact List.Sublist.refl _ | exact List.Sublist.cons_cons _ (List.nil_sublist _)
          · first | refine W.q (QV.q (O.cvBZ ⟨rfl, rfl⟩ (vt rfl) (by first | exact Nat.le_refl _ | omega))) ?_ | refine W.q (QV.q (O.cvBA ⟨rfl, rfl⟩ (vt rfl))) ?_ | refine W.q (QV.q (O.cvBS ⟨rfl, rfl⟩ (vt rfl) (fun _ => by omega))) ?_
            refine WL.nilQn ⟨(by repeat (first | exact List.nil_sublist _ | exact List.Sublist.refl _ | apply List.Sublist.cons₂ | apply List.Sublist.cons)), ?_⟩
            refine RH.q 21 (fun _ _ _ h => h) rfl (by kernel_rfl) (by repeat (first | exact List.nil_sublist _ | exact List.Sublist.refl _ | apply List.Sublist.cons₂ | apply List.Sublist.cons)) (O.bd ⟨rfl, rfl⟩ (PV.cons (vt rfl) (PV.cons (vt rfl) (PV.cons (vt rfl) (PV.nil))))) ?_
            refine RH.one (i := 17) (fun _ _ h => h) (by kernel_rfl) rfl ?_
            first | refine W.q (QV.q (O.cvBZ ⟨rfl, rfl⟩ (vt rfl) (by first | exact Nat.le_refl _ | omega))) ?_ | refine W.q (QV.q (O.cvBA ⟨rfl, rfl⟩ (vt rfl))) ?_ | refine W.q (QV.q (O.cvBS ⟨rfl, rfl⟩ (vt rfl) (fun _ => by omega))) ?_
            refine WL.nilQn ⟨(by repeat (first | exact List.nil_sublist _ | exact List.Sublist.refl _ | apply List.Sublist.cons₂ | apply List.Sublist.cons)), ?_⟩
            refine RH.q 18 (fun _ _ _ h => h) rfl (by kernel_rfl) (by repeat (first | exact List.nil_sublist _ | exact List.Sublist.refl _ | apply List.Sublist.cons₂ | apply List.Sublist.cons)) (O.bd ⟨rfl, rfl⟩ (PV.cons (vt rfl) (PV.nil))) ?_
            refine RH.one (i := 22) (fun _ _ h => h) (by kernel_rfl) rfl ?_
            refine W.bs encD (badsOf (1 + x % 1024)) rfl (PV.cons (vt rfl) (PV.cons (vt rfl) (PV.cons (vt rfl) (PV.cons (vt rfl) (PV.cons (vt rfl) (PV.cons (vt rfl) (PV.cons (vt rfl) (PV.cons (vt rfl) (PV.nil))))))))) rfl rfl rfl (by decide) rfl fun b6 => ?_
            refine WL.nilQn ⟨(by repeat (first | exact List.nil_sublist _ | exact List.Sublist.refl _ | apply List.Sublist.cons₂ | apply List.Sublist.cons)), ?_⟩
            refine RH.q 23 (fun _ _ _ h => h) rfl (by kernel_rfl) (by repeat (first | exact List.nil_sublist _ | exact List.Sublist.refl _ | apply List.Sublist.cons₂ | apply List.Sublist.cons)) (O.as ⟨rfl, rfl⟩ (vt rfl)) ?_
            refine RH.done (by kernel_rfl) (Q.tn ?_)
            refine ⟨_, trivial, ⟨rfl, rfl, rfl, rfl, trivial⟩, ?_⟩
            first | exact List.Sublist.refl _ | exact List.Sublist.cons_cons _ (List.nil_sublist _)
      · refine W.mkB rfl (vt rfl) (vt rfl) (by first | omega | decide) fun b7 => ?_
        refine WL.nilQn ⟨(by repeat (first | exact List.nil_sublist _ | exact List.Sublist.refl _ | apply List.Sublist.cons₂ | apply List.Sublist.cons)), ?_⟩
        refine RH.two (i := 16) (j := 20) (fun _ _ h => h) (by kernel_rfl) rfl rfl ?_ ?_
        · refine W.mkB rfl (vt rfl) (vt rfl) (by first | omega | decide) fun b8 => ?_
          refine WL.nilQn ⟨(by repeat (first | exact List.nil_sublist _ | exact List.Sublist.refl _ | apply List.Sublist.cons₂ | apply List.Sublist.cons)), ?_⟩
          refine RH.two (i := 17) (j := 20) (fun _ _ h => h) (by kernel_rfl) rfl rfl ?_ ?_
          · first | refine W.q (QV.q (O.cvBZ ⟨rfl, rfl⟩ (vt rfl) (by first | exact Nat.le_refl _ | omega))) ?_ | refine W.q (QV.q (O.cvBA ⟨rfl, rfl⟩ (vt rfl))) ?_ | refine W.q (QV.q (O.cvBS ⟨rfl, rfl⟩ (vt rfl) (fun _ => by omega))) ?_
            refine WL.nilQn ⟨(by repeat (first | exact List.nil_sublist _ | exact List.Sublist.refl _ | apply List.Sublist.cons₂ | apply List.Sublist.cons)), ?_⟩
            refine RH.q 18 (fun _ _ _ h => h) rfl (by kernel_rfl) (by repeat (first | exact List.nil_sublist _ | exact List.Sublist.refl _ | apply List.Sublist.cons₂ | apply List.Sublist.cons)) (O.bd ⟨rfl, rfl⟩ (PV.cons (vt rfl) (PV.nil))) ?_
            refine RH.one (i := 20) (fun _ _ h => h) (by kernel_rfl) rfl ?_
            first | refine W.q (QV.q (O.cvBZ ⟨rfl, rfl⟩ (vt rfl) (by first | exact Nat.le_refl _ | omega))) ?_ | refine W.q (QV.q (O.cvBA ⟨rfl, rfl⟩ (vt rfl))) ?_ | refine W.q (QV.q (O.cvBS ⟨rfl, rfl⟩ (vt rfl) (fun _ => by omega))) ?_
            refine WL.nilQn ⟨(by repeat (first | exact List.nil_sublist _ | exact List.Sublist.refl _ | apply List.Sublist.cons₂ | apply List.Sublist.cons)), ?_⟩
            refine RH.q 21 (fun _ _ _ h => h) rfl (by kernel_rfl) (by repeat (first | exact List.nil_sublist _ | exact List.Sublist.refl _ | apply List.Sublist.cons₂ | apply List.Sublist.cons)) (O.bd ⟨rfl, rfl⟩ (PV.cons (vt rfl) (PV.cons (vt rfl) (PV.cons (vt rfl) (PV.nil))))) ?_
            refine RH.one (i := 22) (fun _ _ h => h) (by kernel_rfl) rfl ?_
            refine W.bs encD (badsOf (1 + x % 1024)) rfl (PV.cons (vt rfl) (PV.cons (vt rfl) (PV.cons (vt rfl) (PV.cons (vt rfl) (PV.cons (vt rfl) (PV.cons (vt rfl) (PV.cons (vt rfl) (PV.cons (vt rfl) (PV.nil))))))))) rfl rfl rfl (by decide) rfl fun b9 => ?_
            refine WL.nilQn ⟨(by repeat (first | exact List.nil_sublist _ | exact List.Sublist.refl _ | apply List.Sublist.cons₂ | apply List.Sublist.cons)), ?_⟩
            refine RH.q 23 (fun _ _ _ h => h) rfl (by kernel_rfl) (by repeat (first | exact List.nil_sublist _ | exact List.Sublist.refl _ | apply List.Sublist.cons₂ | apply List.Sublist.cons)) (O.as ⟨rfl, rfl⟩ (vt rfl)) ?_
            refine RH.done (by kernel_rfl) (Q.tn ?_)
            refine ⟨_, trivial, ⟨rfl, rfl, rfl, rfl, trivial⟩, ?_⟩
            first | exact List.Sublist.refl _ | exact List.Sublist.cons_cons _ (List.nil_sublist _)
          · first | refine W.q (QV.q (O.cvBZ ⟨rfl, rfl⟩ (vt rfl) (by first | exact Nat.le_refl _ | omega))) ?_ | refine W.q (QV.q (O.cvBA ⟨rfl, rfl⟩ (vt rfl))) ?_ | refine W.q (QV.q (O.cvBS ⟨rfl, rfl⟩ (vt rfl) (fun _ => by omega))) ?_
            refine WL.nilQn ⟨(by repeat (first | exact List.nil_sublist _ | exact List.Sublist.refl _ | apply List.Sublist.cons₂ | apply List.Sublist.cons)), ?_⟩
            refine RH.q 21 (fun _ _ _ h => h) rfl (by kernel_rfl) (by repeat (first | exact List.nil_sublist _ | exact List.Sublist.refl _ | apply List.Sublist.cons₂ | apply List.Sublist.cons)) (O.bd ⟨rfl, rfl⟩ (PV.cons (vt rfl) (PV.cons (vt rfl) (PV.cons (vt rfl) (PV.nil))))) ?_
            refine RH.one (i := 17) (fun _ _ h => h) (by kernel_rfl) rfl ?_
            first | refine W.q (QV.q (O.cvBZ ⟨rfl, rfl⟩ (vt rfl) (by first | exact Nat.le_refl _ | omega))) ?_ | refine W.q (QV.q (O.cvBA ⟨rfl, rfl⟩ (vt rfl))) ?_ | refine W.q (QV.q (O.cvBS ⟨rfl, rfl⟩ (vt rfl) (fun _ => by omega))) ?_
            refine WL.nilQn ⟨(by repeat (first | exact List.nil_sublist _ | exact List.Sublist.refl _ | apply List.Sublist.cons₂ | apply List.Sublist.cons)), ?_⟩
            refine RH.q 18 (fun _ _ _ h => h) rfl (by kernel_rfl) (by repeat (first | exact List.nil_sublist _ | exact List.Sublist.refl _ | apply List.Sublist.cons₂ | apply List.Sublist.cons)) (O.bd ⟨rfl, rfl⟩ (PV.cons (vt rfl) (PV.nil))) ?_
            refine RH.one (i := 22) (fun _ _ h => h) (by kernel_rfl) rfl ?_
            refine W.bs encD (badsOf (1 + x % 1024)) rfl (PV.cons (vt rfl) (PV.cons (vt rfl) (PV.cons (vt rfl) (PV.cons (vt rfl) (PV.cons (vt rfl) (PV.cons (vt rfl) (PV.cons (vt rfl) (PV.cons (vt rfl) (PV.nil))))))))) rfl rfl rfl (by decide) rfl fun b10 => ?_
            refine WL.nilQn ⟨(by repeat (first | exact List.nil_sublist _ | exact List.Sublist.refl _ | apply List.Sublist.cons₂ | apply List.Sublist.cons)), ?_⟩
            refine RH.q 23 (fun _ _ _ h => h) rfl (by kernel_rfl) (by repeat (first | exact List.nil_sublist _ | exact List.Sublist.refl _ | apply List.Sublist.cons₂ | apply List.Sublist.cons)) (O.as ⟨rfl, rfl⟩ (vt rfl)) ?_
            refine RH.done (by kernel_rfl) (Q.tn ?_)
            refine ⟨_, trivial, ⟨rfl, rfl, rfl, rfl, trivial⟩, ?_⟩
            first | exact List.Sublist.refl _ | exact List.Sublist.cons_cons _ (List.nil_sublist _)
        · first | refine W.q (QV.q (O.cvBZ ⟨rfl, rfl⟩ (vt rfl) (by first | exact Nat.le_refl _ | omega))) ?_ | refine W.q (QV.q (O.cvBA ⟨rfl, rfl⟩ (vt rfl))) ?_ | refine W.q (QV.q (O.cvBS ⟨rfl, rfl⟩ (vt rfl) (fun _ => by omega))) ?_
          refine WL.nilQn ⟨(by repeat (first | exact List.nil_sublist _ | exact List.Sublist.refl _ | apply List.Sublist.cons₂ | apply List.Sublist.cons)), ?_⟩
          refine RH.q 21 (fun _ _ _ h => h) rfl (by kernel_rfl) (by repeat (first | exact List.nil_sublist _ | exact List.Sublist.refl _ | apply List.Sublist.cons₂ | apply List.Sublist.cons)) (O.bd ⟨rfl, rfl⟩ (PV.cons (vt rfl) (PV.cons (vt rfl) (PV.cons (vt rfl) (PV.nil))))) ?_
          refine RH.one (i := 16) (fun _ _ h => h) (by kernel_rfl) rfl ?_
          refine W.mkB rfl (vt rfl) (vt rfl) (by first | omega | decide) fun b11 => ?_
          refine WL.nilQn ⟨(by repeat (first | exact List.nil_sublist _ | exact List.Sublist.refl _ | apply List.Sublist.cons₂ | apply List.Sublist.cons)), ?_⟩
          refine RH.one (i := 17) (fun _ _ h => h) (by kernel_rfl) rfl ?_
          first | refine W.q (QV.q (O.cvBZ ⟨rfl, rfl⟩ (vt rfl) (by first | exact Nat.le_refl _ | omega))) ?_ | refine W.q (QV.q (O.cvBA ⟨rfl, rfl⟩ (vt rfl))) ?_ | refine W.q (QV.q (O.cvBS ⟨rfl, rfl⟩ (vt rfl) (fun _ => by omega))) ?_
          refine WL.nilQn ⟨(by repeat (first | exact List.nil_sublist _ | exact List.Sublist.refl _ | apply List.Sublist.cons₂ | apply List.Sublist.cons)), ?_⟩
          refine RH.q 18 (fun _ _ _ h => h) rfl (by kernel_rfl) (by repeat (first | exact List.nil_sublist _ | exact List.Sublist.refl _ | apply List.Sublist.cons₂ | apply List.Sublist.cons)) (O.bd ⟨rfl, rfl⟩ (PV.cons (vt rfl) (PV.nil))) ?_
          refine RH.one (i := 22) (fun _ _ h => h) (by kernel_rfl) rfl ?_
          refine W.bs encD (badsOf (1 + x % 1024)) rfl (PV.cons (vt rfl) (PV.cons (vt rfl) (PV.cons (vt rfl) (PV.cons (vt rfl) (PV.cons (vt rfl) (PV.cons (vt rfl) (PV.cons (vt rfl) (PV.cons (vt rfl) (PV.nil))))))))) rfl rfl rfl (by decide) rfl fun b12 => ?_
          refine WL.nilQn ⟨(by repeat (first | exact List.nil_sublist _ | exact List.Sublist.refl _ | apply List.Sublist.cons₂ | apply List.Sublist.cons)), ?_⟩
          refine RH.q 23 (fun _ _ _ h => h) rfl (by kernel_rfl) (by repeat (first | exact List.nil_sublist _ | exact List.Sublist.refl _ | apply List.Sublist.cons₂ | apply List.Sublist.cons)) (O.as ⟨rfl, rfl⟩ (vt rfl)) ?_
          refine RH.done (by kernel_rfl) (Q.tn ?_)
          refine ⟨_, trivial, ⟨rfl, rfl, rfl, rfl, trivial⟩, ?_⟩
          first | exact List.Sublist.refl _ | exact List.Sublist.cons_cons _ (List.nil_sublist _)
    · rintro b0 -
      refine CW.seq ?_
      refine CW.region ?_
      refine W.q (QV.q (O.mv ⟨rfl, rfl⟩ (vt rfl))) ?_
      refine W.q (QV.q (O.mv ⟨rfl, rfl⟩ (vt rfl))) ?_
      refine W.q (QV.q (O.cv ⟨rfl, rfl⟩ (vt rfl))) ?_
      refine W.q (QV.q (O.rem ⟨rfl, rfl⟩ (vt rfl) (vt rfl) (fun _ => by first | decide | omega | (simp; omega)))) ?_
      refine W.q (QV.q (O.cv ⟨rfl, rfl⟩ (vt rfl))) ?_
      refine W.q (QV.q (O.ixA ⟨rfl, rfl⟩ (vt rfl) (vt rfl) (by first | rfl | omega) (fun hg => by first | omega | (simp only [cond_true, cond_false, Bool.true_and, Bool.cond_false_right, Bool.cond_true_left, Bool.and_eq_true, Bool.or_eq_true, decide_eq_true_eq] at *; omega)))) ?_
      refine W.q (QV.q (O.ldsE ⟨rfl, rfl⟩ (vt rfl) (fun hg => by first | omega | (simp only [cond_true, cond_false, Bool.true_and, Bool.cond_false_right, Bool.cond_true_left, Bool.and_eq_true, Bool.or_eq_true, decide_eq_true_eq] at *; omega)) (by decide))) ?_
      refine W.al rfl rfl fun b13 => ?_
      refine W.st (vt rfl) (vt rfl) rfl ?_
      refine WL.nil (Q.tn ?_)
      refine CW.seq ?_
      refine CW.region ?_
      refine W.q (QV.q (O.lds ⟨rfl, rfl⟩ (vt rfl))) ?_
      refine W.q (O.call ⟨rfl, rfl⟩ (AV.cons (vt rfl) (AV.cons (vt rfl) (AV.nil))) (fun _ w hw => x_Append _ _ _ _ _ _ w (by first | exact Nat.le_trans (Dk.turned_len _ _ _).1 (by decide) | exact Nat.le_trans (Dk.turned_len _ _ _).2 (by decide) | assumption | decide | (simp [top]; done) | omega) (by first | exact Nat.le_trans (Dk.turned_len _ _ _).1 (by decide) | exact Nat.le_trans (Dk.turned_len _ _ _).2 (by decide) | assumption | decide | (simp [top]; done) | omega) (by first | exact Nat.le_trans (Dk.turned_len _ _ _).1 (by decide) | exact Nat.le_trans (Dk.turned_len _ _ _).2 (by decide) | assumption | decide | (simp [top]; done) | omega))) ?_
      refine W.q (QV.q (O.mv ⟨rfl, rfl⟩ (vt rfl))) ?_
      refine W.q (QV.q (O.ext ⟨rfl, rfl⟩ (vt rfl) rfl)) ?_
      refine W.q (QV.q (O.ext ⟨rfl, rfl⟩ (vt rfl) rfl)) ?_
      refine W.al rfl rfl fun b14 => ?_
      refine W.st (vt rfl) (vt rfl) rfl ?_
      refine W.q (QV.q (O.as ⟨rfl, rfl⟩ (vt rfl))) ?_
      refine WL.nil (Q.tn ?_)
      refine CW.seq ?_
      refine CW.region ?_
      refine W.q (QV.q (O.lds ⟨rfl, rfl⟩ (vt rfl))) ?_
      refine W.q (O.call ⟨rfl, rfl⟩ (AV.cons (vt rfl) (AV.nil)) (fun _ w hw => x_Sync _ _ _ _ _ w (by first | exact Nat.le_trans (Dk.turned_len _ _ _).1 (by decide) | exact Nat.le_trans (Dk.turned_len _ _ _).2 (by decide) | assumption | decide | (simp [top]; done) | omega) (by first | exact Nat.le_trans (Dk.turned_len _ _ _).1 (by decide) | exact Nat.le_trans (Dk.turned_len _ _ _).2 (by decide) | assumption | decide | (simp [top]; done) | omega))) ?_
      refine W.q (QV.q (O.mv ⟨rfl, rfl⟩ (vt rfl))) ?_
      refine W.q (QV.q (O.ext ⟨rfl, rfl⟩ (vt rfl) rfl)) ?_
      refine W.q (QV.q (O.ext ⟨rfl, rfl⟩ (vt rfl) rfl)) ?_
      refine W.al rfl rfl fun b15 => ?_
      refine W.st (vt rfl) (vt rfl) rfl ?_
      refine W.q (QV.q (O.as ⟨rfl, rfl⟩ (vt rfl))) ?_
      refine WL.nil (Q.tn ?_)
      refine CW.seq ?_
      refine CW.region ?_
      refine W.q (QV.q (O.lds ⟨rfl, rfl⟩ (vt rfl))) ?_
      refine W.q (O.call ⟨rfl, rfl⟩ (AV.cons (vt rfl) (AV.cons (vt rfl) (AV.nil))) (fun _ w hw => x_Begin _ _ _ _ _ _ w (by first | exact Nat.le_trans (Dk.turned_len _ _ _).1 (by decide) | exact Nat.le_trans (Dk.turned_len _ _ _).2 (by decide) | assumption | decide | (simp [top]; done) | omega) (by first | exact Nat.le_trans (Dk.turned_len _ _ _).1 (by decide) | exact Nat.le_trans (Dk.turned_len _ _ _).2 (by decide) | assumption | decide | (simp [top]; done) | omega) (by first | exact Nat.le_trans (Dk.turned_len _ _ _).1 (by decide) | exact Nat.le_trans (Dk.turned_len _ _ _).2 (by decide) | assumption | decide | (simp [top]; done) | omega))) ?_
      refine W.q (QV.q (O.mv ⟨rfl, rfl⟩ (vt rfl))) ?_
      refine W.q (QV.q (O.ext ⟨rfl, rfl⟩ (vt rfl) rfl)) ?_
      refine W.q (QV.q (O.ext ⟨rfl, rfl⟩ (vt rfl) rfl)) ?_
      refine W.al rfl rfl fun b16 => ?_
      refine W.st (vt rfl) (vt rfl) rfl ?_
      refine W.q (QV.q (O.as ⟨rfl, rfl⟩ (vt rfl))) ?_
      refine WL.nil (Q.tn ?_)
      refine CW.seq ?_
      refine CW.region ?_
      refine W.q (QV.q (O.lds ⟨rfl, rfl⟩ (vt rfl))) ?_
      refine W.q (O.call ⟨rfl, rfl⟩ (AV.cons (vt rfl) (AV.nil)) (fun _ w hw => x_Settle _ _ _ _ _ w (by first | exact Nat.le_trans (Dk.turned_len _ _ _).1 (by decide) | exact Nat.le_trans (Dk.turned_len _ _ _).2 (by decide) | assumption | decide | (simp [top]; done) | omega) (by first | exact Nat.le_trans (Dk.turned_len _ _ _).1 (by decide) | exact Nat.le_trans (Dk.turned_len _ _ _).2 (by decide) | assumption | decide | (simp [top]; done) | omega))) ?_
      refine W.q (QV.q (O.mv ⟨rfl, rfl⟩ (vt rfl))) ?_
      refine W.q (QV.q (O.ext ⟨rfl, rfl⟩ (vt rfl) rfl)) ?_
      refine W.q (QV.q (O.ext ⟨rfl, rfl⟩ (vt rfl) rfl)) ?_
      refine W.al rfl rfl fun b17 => ?_
      refine W.st (vt rfl) (vt rfl) rfl ?_
      refine W.q (QV.q (O.as ⟨rfl, rfl⟩ (vt rfl))) ?_
      refine WL.nil (Q.tn ?_)
      refine CW.seq ?_
      refine CW.region ?_
      refine W.q (QV.q (O.lds ⟨rfl, rfl⟩ (vt rfl))) ?_
      refine W.q (O.call ⟨rfl, rfl⟩ (AV.cons (vt rfl) (AV.nil)) (fun _ w hw => x_Swap _ _ _ _ _ w (by first | exact Nat.le_trans (Dk.turned_len _ _ _).1 (by decide) | exact Nat.le_trans (Dk.turned_len _ _ _).2 (by decide) | assumption | decide | (simp [top]; done) | omega) (by first | exact Nat.le_trans (Dk.turned_len _ _ _).1 (by decide) | exact Nat.le_trans (Dk.turned_len _ _ _).2 (by decide) | assumption | decide | (simp [top]; done) | omega))) ?_
      refine W.q (QV.q (O.mv ⟨rfl, rfl⟩ (vt rfl))) ?_
      refine W.q (QV.q (O.ext ⟨rfl, rfl⟩ (vt rfl) rfl)) ?_
      refine W.q (QV.q (O.ext ⟨rfl, rfl⟩ (vt rfl) rfl)) ?_
      refine W.al rfl rfl fun b18 => ?_
      refine W.st (vt rfl) (vt rfl) rfl ?_
      refine W.q (QV.q (O.as ⟨rfl, rfl⟩ (vt rfl))) ?_
      refine WL.nil (Q.tn ?_)
      refine CW.seq ?_
      refine CW.region ?_
      refine W.q (QV.q (O.lds ⟨rfl, rfl⟩ (vt rfl))) ?_
      refine W.q (O.call ⟨rfl, rfl⟩ (AV.cons (vt rfl) (AV.cons (vt rfl) (AV.nil))) (fun _ w hw => x_Crash _ _ _ _ _ _ w (by first | exact Nat.le_trans (Dk.turned_len _ _ _).1 (by decide) | exact Nat.le_trans (Dk.turned_len _ _ _).2 (by decide) | assumption | decide | (simp [top]; done) | omega) (by first | exact Nat.le_trans (Dk.turned_len _ _ _).1 (by decide) | exact Nat.le_trans (Dk.turned_len _ _ _).2 (by decide) | assumption | decide | (simp [top]; done) | omega))) ?_
      refine W.q (QV.q (O.mv ⟨rfl, rfl⟩ (vt rfl))) ?_
      refine W.q (QV.q (O.ext ⟨rfl, rfl⟩ (vt rfl) rfl)) ?_
      refine W.q (QV.q (O.ext ⟨rfl, rfl⟩ (vt rfl) rfl)) ?_
      refine W.al rfl rfl fun b19 => ?_
      refine W.st (vt rfl) (vt rfl) rfl ?_
      refine W.q (QV.q (O.as ⟨rfl, rfl⟩ (vt rfl))) ?_
      refine WL.nil (Q.tn ?_)
      refine CW.seq ?_
      refine CW.region ?_
      refine W.q (QV.q (O.bd ⟨rfl, rfl⟩ (PV.nil))) ?_
      refine W.q (QV.q (O.mv ⟨rfl, rfl⟩ (vt rfl))) ?_
      first | refine W.q (QV.q (O.ngN ⟨rfl, rfl⟩ (vt rfl) (fun _ => by omega))) ?_ | refine W.q (QV.q (O.ng ⟨rfl, rfl⟩ (vt rfl))) ?_
      refine W.q (O.call ⟨rfl, rfl⟩ (AV.cons (vt rfl) (AV.cons (vt rfl) (AV.nil))) (fun _ w hw => x_Crash _ _ _ _ _ _ w (by first | exact Nat.le_trans (Dk.turned_len _ _ _).1 (by decide) | exact Nat.le_trans (Dk.turned_len _ _ _).2 (by decide) | assumption | decide | (simp [top]; done) | omega) (by first | exact Nat.le_trans (Dk.turned_len _ _ _).1 (by decide) | exact Nat.le_trans (Dk.turned_len _ _ _).2 (by decide) | assumption | decide | (simp [top]; done) | omega))) ?_
      refine W.q (QV.q (O.mv ⟨rfl, rfl⟩ (vt rfl))) ?_
      refine W.q (QV.q (O.ext ⟨rfl, rfl⟩ (vt rfl) rfl)) ?_
      refine W.q (QV.q (O.ext ⟨rfl, rfl⟩ (vt rfl) rfl)) ?_
      refine W.al rfl rfl fun b20 => ?_
      refine W.st (vt rfl) (vt rfl) rfl ?_
      refine W.q (QV.q (O.as ⟨rfl, rfl⟩ (vt rfl))) ?_
      refine WL.nil (Q.tn ?_)
      refine CW.seq ?_
      refine CW.region ?_
      refine W.q (QV.q (O.bd ⟨rfl, rfl⟩ (PV.cons (vt rfl) (PV.nil)))) ?_
      refine W.q (O.call ⟨rfl, rfl⟩ (AV.cons (vt rfl) (AV.nil)) (fun _ w hw => x_Settle _ _ _ _ _ w (by first | exact Nat.le_trans (Dk.turned_len _ _ _).1 (by decide) | exact Nat.le_trans (Dk.turned_len _ _ _).2 (by decide) | assumption | decide | (simp [top]; done) | omega) (by first | exact Nat.le_trans (Dk.turned_len _ _ _).1 (by decide) | exact Nat.le_trans (Dk.turned_len _ _ _).2 (by decide) | assumption | decide | (simp [top]; done) | omega))) ?_
      refine W.q (QV.q (O.mv ⟨rfl, rfl⟩ (vt rfl))) ?_
      refine W.q (QV.q (O.ext ⟨rfl, rfl⟩ (vt rfl) rfl)) ?_
      refine W.q (QV.q (O.ext ⟨rfl, rfl⟩ (vt rfl) rfl)) ?_
      refine W.al rfl rfl fun b21 => ?_
      refine W.st (vt rfl) (vt rfl) rfl ?_
      refine W.q (QV.q (O.as ⟨rfl, rfl⟩ (vt rfl))) ?_
      refine WL.nil (Q.tn ?_)
      refine CW.seq ?_
      refine CW.region ?_
      refine W.q (QV.q (O.bd ⟨rfl, rfl⟩ (PV.cons (vt rfl) (PV.nil)))) ?_
      refine W.q (O.call ⟨rfl, rfl⟩ (AV.cons (vt rfl) (AV.nil)) (fun _ w hw => x_Swap _ _ _ _ _ w (by first | exact Nat.le_trans (Dk.turned_len _ _ _).1 (by decide) | exact Nat.le_trans (Dk.turned_len _ _ _).2 (by decide) | assumption | decide | (simp [top]; done) | omega) (by first | exact Nat.le_trans (Dk.turned_len _ _ _).1 (by decide) | exact Nat.le_trans (Dk.turned_len _ _ _).2 (by decide) | assumption | decide | (simp [top]; done) | omega))) ?_
      refine W.q (QV.q (O.mv ⟨rfl, rfl⟩ (vt rfl))) ?_
      refine W.q (QV.q (O.ext ⟨rfl, rfl⟩ (vt rfl) rfl)) ?_
      refine W.q (QV.q (O.ext ⟨rfl, rfl⟩ (vt rfl) rfl)) ?_
      refine W.al rfl rfl fun b22 => ?_
      refine W.st (vt rfl) (vt rfl) rfl ?_
      refine W.q (QV.q (O.as ⟨rfl, rfl⟩ (vt rfl))) ?_
      refine WL.nil (Q.tn ?_)
      refine CW.seq ?_
      refine CW.region ?_
      refine W.mkB rfl (vt rfl) (vt rfl) (by first | omega | decide) fun b23 => ?_
      first | refine W.q (QV.q (O.cvBZ ⟨rfl, rfl⟩ (vt rfl) (by first | exact Nat.le_refl _ | omega))) ?_ | refine W.q (QV.q (O.cvBA ⟨rfl, rfl⟩ (vt rfl))) ?_ | refine W.q (QV.q (O.cvBS ⟨rfl, rfl⟩ (vt rfl) (fun _ => by omega))) ?_
      refine W.q (QV.q (O.bd ⟨rfl, rfl⟩ (PV.cons (vt rfl) (PV.cons (vt rfl) (PV.cons (vt rfl) (PV.nil)))))) ?_
      refine W.al rfl rfl fun b24 => ?_
      refine W.st (vt rfl) (vt rfl) rfl ?_
      refine WL.nil (Q.tn ?_)
      refine CW.seq ?_
      refine CW.region ?_
      refine W.q (QV.q (O.lds ⟨rfl, rfl⟩ (vt rfl))) ?_
      refine W.q (O.call ⟨rfl, rfl⟩ (AV.cons (vt rfl) (AV.cons (vt rfl) (AV.nil))) (fun _ w hw => x_Append _ _ _ _ _ _ w (by first | exact Nat.le_trans (Dk.turned_len _ _ _).1 (by decide) | exact Nat.le_trans (Dk.turned_len _ _ _).2 (by decide) | assumption | decide | (simp [top]; done) | omega) (by first | exact Nat.le_trans (Dk.turned_len _ _ _).1 (by decide) | exact Nat.le_trans (Dk.turned_len _ _ _).2 (by decide) | assumption | decide | (simp [top]; done) | omega) (by first | exact Nat.le_trans (Dk.turned_len _ _ _).1 (by decide) | exact Nat.le_trans (Dk.turned_len _ _ _).2 (by decide) | assumption | decide | (simp [top]; done) | omega))) ?_
      refine W.q (QV.q (O.mv ⟨rfl, rfl⟩ (vt rfl))) ?_
      refine W.q (QV.q (O.ext ⟨rfl, rfl⟩ (vt rfl) rfl)) ?_
      refine W.q (QV.q (O.ext ⟨rfl, rfl⟩ (vt rfl) rfl)) ?_
      refine W.al rfl rfl fun b25 => ?_
      refine W.st (vt rfl) (vt rfl) rfl ?_
      refine W.q (QV.q (O.as ⟨rfl, rfl⟩ (vt rfl))) ?_
      refine WL.nil (Q.tn ?_)
      refine CW.seq ?_
      refine CW.region ?_
      refine W.q (QV.q (O.lds ⟨rfl, rfl⟩ (vt rfl))) ?_
      refine W.q (O.call ⟨rfl, rfl⟩ (AV.cons (vt rfl) (AV.cons (vt rfl) (AV.nil))) (fun _ w hw => x_Append _ _ _ _ _ _ w (by first | exact Nat.le_trans (Dk.turned_len _ _ _).1 (by decide) | exact Nat.le_trans (Dk.turned_len _ _ _).2 (by decide) | assumption | decide | (simp [top]; done) | omega) (by first | exact Nat.le_trans (Dk.turned_len _ _ _).1 (by decide) | exact Nat.le_trans (Dk.turned_len _ _ _).2 (by decide) | assumption | decide | (simp [top]; done) | omega) (by first | exact Nat.le_trans (Dk.turned_len _ _ _).1 (by decide) | exact Nat.le_trans (Dk.turned_len _ _ _).2 (by decide) | assumption | decide | (simp [top]; done) | omega))) ?_
      refine W.q (QV.q (O.mv ⟨rfl, rfl⟩ (vt rfl))) ?_
      refine W.q (QV.q (O.ext ⟨rfl, rfl⟩ (vt rfl) rfl)) ?_
      refine W.q (QV.q (O.ext ⟨rfl, rfl⟩ (vt rfl) rfl)) ?_
      refine W.al rfl rfl fun b26 => ?_
      refine W.st (vt rfl) (vt rfl) rfl ?_
      refine W.q (QV.q (O.as ⟨rfl, rfl⟩ (vt rfl))) ?_
      refine WL.nil (Q.tn ?_)
      refine CW.seq ?_
      refine CW.region ?_
      refine W.q (QV.q (O.lds ⟨rfl, rfl⟩ (vt rfl))) ?_
      refine W.q (O.call ⟨rfl, rfl⟩ (AV.cons (vt rfl) (AV.cons (vt rfl) (AV.nil))) (fun _ w hw => x_Begin _ _ _ _ _ _ w (by first | exact Nat.le_trans (Dk.turned_len _ _ _).1 (by decide) | exact Nat.le_trans (Dk.turned_len _ _ _).2 (by decide) | assumption | decide | (simp [top]; done) | omega) (by first | exact Nat.le_trans (Dk.turned_len _ _ _).1 (by decide) | exact Nat.le_trans (Dk.turned_len _ _ _).2 (by decide) | assumption | decide | (simp [top]; done) | omega) (by first | exact Nat.le_trans (Dk.turned_len _ _ _).1 (by decide) | exact Nat.le_trans (Dk.turned_len _ _ _).2 (by decide) | assumption | decide | (simp [top]; done) | omega))) ?_
      refine W.q (QV.q (O.mv ⟨rfl, rfl⟩ (vt rfl))) ?_
      refine W.q (QV.q (O.ext ⟨rfl, rfl⟩ (vt rfl) rfl)) ?_
      refine W.q (QV.q (O.ext ⟨rfl, rfl⟩ (vt rfl) rfl)) ?_
      refine W.al rfl rfl fun b27 => ?_
      refine W.st (vt rfl) (vt rfl) rfl ?_
      refine W.q (QV.q (O.as ⟨rfl, rfl⟩ (vt rfl))) ?_
      refine WL.nil (Q.tn ?_)
      refine CW.seq ?_
      refine CW.region ?_
      refine W.q (QV.q (O.lds ⟨rfl, rfl⟩ (vt rfl))) ?_
      refine W.q (O.call ⟨rfl, rfl⟩ (AV.cons (vt rfl) (AV.cons (vt rfl) (AV.nil))) (fun _ w hw => x_Begin _ _ _ _ _ _ w (by first | exact Nat.le_trans (Dk.turned_len _ _ _).1 (by decide) | exact Nat.le_trans (Dk.turned_len _ _ _).2 (by decide) | assumption | decide | (simp [top]; done) | omega) (by first | exact Nat.le_trans (Dk.turned_len _ _ _).1 (by decide) | exact Nat.le_trans (Dk.turned_len _ _ _).2 (by decide) | assumption | decide | (simp [top]; done) | omega) (by first | exact Nat.le_trans (Dk.turned_len _ _ _).1 (by decide) | exact Nat.le_trans (Dk.turned_len _ _ _).2 (by decide) | assumption | decide | (simp [top]; done) | omega))) ?_
      refine W.q (QV.q (O.mv ⟨rfl, rfl⟩ (vt rfl))) ?_
      refine W.q (QV.q (O.ext ⟨rfl, rfl⟩ (vt rfl) rfl)) ?_
      refine W.q (QV.q (O.ext ⟨rfl, rfl⟩ (vt rfl) rfl)) ?_
      refine W.al rfl rfl fun b28 => ?_
      refine W.st (vt rfl) (vt rfl) rfl ?_
      refine W.q (QV.q (O.as ⟨rfl, rfl⟩ (vt rfl))) ?_
      refine WL.nil (Q.tn ?_)
      refine CW.seq ?_
      refine CW.region ?_
      refine W.q (QV.q (O.lds ⟨rfl, rfl⟩ (vt rfl))) ?_
      refine W.q (O.call ⟨rfl, rfl⟩ (AV.cons (vt rfl) (AV.nil)) (fun _ w hw => x_May _ _ _ _ _ w (by first | exact Nat.le_trans (Dk.turned_len _ _ _).1 (by decide) | exact Nat.le_trans (Dk.turned_len _ _ _).2 (by decide) | assumption | decide | (simp [top]; done) | omega) (by first | exact Nat.le_trans (Dk.turned_len _ _ _).1 (by decide) | exact Nat.le_trans (Dk.turned_len _ _ _).2 (by decide) | assumption | decide | (simp [top]; done) | omega))) ?_
      refine W.q (QV.q (O.nt ⟨rfl, rfl⟩ (vt rfl))) ?_
      refine W.q (QV.q (O.mv ⟨rfl, rfl⟩ (vt rfl))) ?_
      refine W.q (QV.q (O.lds ⟨rfl, rfl⟩ (vt rfl))) ?_
      refine W.q (O.call ⟨rfl, rfl⟩ (AV.cons (vs rfl) (AV.nil)) (fun _ w hw => x_May _ _ _ _ _ w (by first | exact Nat.le_trans (Dk.turned_len _ _ _).1 (by decide) | exact Nat.le_trans (Dk.turned_len _ _ _).2 (by decide) | assumption | decide | (simp [top]; done) | omega) (by first | exact Nat.le_trans (Dk.turned_len _ _ _).1 (by decide) | exact Nat.le_trans (Dk.turned_len _ _ _).2 (by decide) | assumption | decide | (simp [top]; done) | omega))) ?_
      refine W.q (QV.q (O.pkB ⟨rfl, rfl⟩ (vt rfl) (vs rfl) (vt rfl))) ?_
      refine W.q (QV.q (O.mv ⟨rfl, rfl⟩ (vt rfl))) ?_
      refine W.q (QV.q (O.mv ⟨rfl, rfl⟩ (vt rfl))) ?_
      refine W.q (O.call ⟨rfl, rfl⟩ (AV.cons (vs rfl) (AV.nil)) (fun _ w hw => law0_Num _ w)) ?_
      refine W.q (QV.q (O.eqI ⟨rfl, rfl⟩ (vs rfl) (vt rfl))) ?_
      refine W.q (QV.q (O.pkB ⟨rfl, rfl⟩ (vt rfl) (vs rfl) (vt rfl))) ?_
      refine W.q (QV.q (O.mv ⟨rfl, rfl⟩ (vt rfl))) ?_
      refine W.q (QV.q (O.mv ⟨rfl, rfl⟩ (vt rfl))) ?_
      refine W.q (O.call ⟨rfl, rfl⟩ (AV.cons (vs rfl) (AV.nil)) (fun _ w hw => law0_Num _ w)) ?_
      refine W.q (QV.q (O.eqI ⟨rfl, rfl⟩ (vs rfl) (vt rfl))) ?_
      refine W.q (QV.q (O.pkB ⟨rfl, rfl⟩ (vt rfl) (vs rfl) (vt rfl))) ?_
      refine W.q (QV.q (O.mv ⟨rfl, rfl⟩ (vt rfl))) ?_
      refine W.q (QV.q (O.mv ⟨rfl, rfl⟩ (vt rfl))) ?_
      refine W.q (O.call ⟨rfl, rfl⟩ (AV.cons (vs rfl) (AV.nil)) (fun _ w hw => law0_Num _ w)) ?_
      refine W.q (QV.q (O.eqI ⟨rfl, rfl⟩ (vs rfl) (vt rfl))) ?_
      refine W.q (QV.q (O.pkB ⟨rfl, rfl⟩ (vt rfl) (vs rfl) (vt rfl))) ?_
      refine W.q (QV.q (O.mv ⟨rfl, rfl⟩ (vt rfl))) ?_
      refine W.q (QV.q (O.mv ⟨rfl, rfl⟩ (vt rfl))) ?_
      refine W.q (O.call ⟨rfl, rfl⟩ (AV.cons (vs rfl) (AV.nil)) (fun _ w hw => law0_Num _ w)) ?_
      refine W.q (QV.q (O.eqI ⟨rfl, rfl⟩ (vs rfl) (vt rfl))) ?_
      refine W.q (QV.q (O.pkB ⟨rfl, rfl⟩ (vt rfl) (vs rfl) (vt rfl))) ?_
      refine W.q (QV.q (O.mv ⟨rfl, rfl⟩ (vt rfl))) ?_
      refine W.q (QV.q (O.mv ⟨rfl, rfl⟩ (vt rfl))) ?_
      refine W.q (O.call ⟨rfl, rfl⟩ (AV.cons (vs rfl) (AV.nil)) (fun _ w hw => law0_Num _ w)) ?_
      refine W.q (QV.q (O.eqI ⟨rfl, rfl⟩ (vs rfl) (vt rfl))) ?_
      refine W.q (QV.q (O.pkB ⟨rfl, rfl⟩ (vt rfl) (vs rfl) (vt rfl))) ?_
      refine W.q (QV.q (O.mv ⟨rfl, rfl⟩ (vt rfl))) ?_
      refine W.q (QV.q (O.mv ⟨rfl, rfl⟩ (vt rfl))) ?_
      refine W.q (O.call ⟨rfl, rfl⟩ (AV.cons (vs rfl) (AV.nil)) (fun _ w hw => law0_Num _ w)) ?_
      refine W.q (QV.q (O.eqI ⟨rfl, rfl⟩ (vs rfl) (vt rfl))) ?_
      refine W.q (QV.q (O.pkB ⟨rfl, rfl⟩ (vt rfl) (vs rfl) (vt rfl))) ?_
      refine W.q (QV.q (O.mv ⟨rfl, rfl⟩ (vt rfl))) ?_
      refine W.q (QV.q (O.mv ⟨rfl, rfl⟩ (vt rfl))) ?_
      refine W.q (O.call ⟨rfl, rfl⟩ (AV.cons (vs rfl) (AV.nil)) (fun _ w hw => law0_Num _ w)) ?_
      refine W.q (QV.q (O.eqI ⟨rfl, rfl⟩ (vs rfl) (vt rfl))) ?_
      refine W.q (QV.q (O.pkB ⟨rfl, rfl⟩ (vt rfl) (vs rfl) (vt rfl))) ?_
      refine W.q (QV.q (O.mv ⟨rfl, rfl⟩ (vt rfl))) ?_
      refine W.q (QV.q (O.mv ⟨rfl, rfl⟩ (vt rfl))) ?_
      refine W.q (O.call ⟨rfl, rfl⟩ (AV.cons (vs rfl) (AV.nil)) (fun _ w hw => law0_Num _ w)) ?_
      refine W.q (QV.q (O.eqI ⟨rfl, rfl⟩ (vs rfl) (vt rfl))) ?_
      refine W.q (QV.q (O.pkB ⟨rfl, rfl⟩ (vt rfl) (vs rfl) (vt rfl))) ?_
      refine W.q (QV.q (O.mv ⟨rfl, rfl⟩ (vt rfl))) ?_
      refine W.q (QV.q (O.mv ⟨rfl, rfl⟩ (vt rfl))) ?_
      refine W.q (O.call ⟨rfl, rfl⟩ (AV.cons (vs rfl) (AV.nil)) (fun _ w hw => law0_Num _ w)) ?_
      refine W.q (QV.q (O.eqI ⟨rfl, rfl⟩ (vs rfl) (vt rfl))) ?_
      refine W.q (QV.q (O.pkB ⟨rfl, rfl⟩ (vt rfl) (vs rfl) (vt rfl))) ?_
      refine W.q (QV.q (O.mv ⟨rfl, rfl⟩ (vt rfl))) ?_
      refine W.q (QV.q (O.mv ⟨rfl, rfl⟩ (vt rfl))) ?_
      refine W.q (O.call ⟨rfl, rfl⟩ (AV.cons (vs rfl) (AV.nil)) (fun _ w hw => law0_Num _ w)) ?_
      refine W.q (QV.q (O.eqI ⟨rfl, rfl⟩ (vs rfl) (vt rfl))) ?_
      refine W.q (QV.q (O.pkB ⟨rfl, rfl⟩ (vt rfl) (vs rfl) (vt rfl))) ?_
      refine W.q (QV.q (O.mv ⟨rfl, rfl⟩ (vt rfl))) ?_
      refine W.q (QV.q (O.lds ⟨rfl, rfl⟩ (vt rfl))) ?_
      refine W.q (QV.q (O.lds ⟨rfl, rfl⟩ (vt rfl))) ?_
      refine W.q (QV.q (O.eqT ⟨rfl, rfl⟩ (vs rfl) (vs rfl) rfl)) ?_
      refine W.q (QV.q (O.pkB ⟨rfl, rfl⟩ (vt rfl) (vs rfl) (vt rfl))) ?_
      refine W.q (QV.q (O.mv ⟨rfl, rfl⟩ (vt rfl))) ?_
      refine W.q (QV.q (O.mv ⟨rfl, rfl⟩ (vt rfl))) ?_
      refine W.q (O.call ⟨rfl, rfl⟩ (AV.cons (vs rfl) (AV.nil)) (fun _ w hw => law0_Num _ w)) ?_
      refine W.q (QV.q (O.eqI ⟨rfl, rfl⟩ (vs rfl) (vt rfl))) ?_
      refine W.q (QV.q (O.pkB ⟨rfl, rfl⟩ (vt rfl) (vs rfl) (vt rfl))) ?_
      refine W.q (QV.q (O.mv ⟨rfl, rfl⟩ (vt rfl))) ?_
      refine W.q (QV.q (O.mv ⟨rfl, rfl⟩ (vt rfl))) ?_
      refine W.q (O.call ⟨rfl, rfl⟩ (AV.cons (vs rfl) (AV.nil)) (fun _ w hw => law0_Num _ w)) ?_
      refine W.q (QV.q (O.eqI ⟨rfl, rfl⟩ (vs rfl) (vt rfl))) ?_
      refine W.q (QV.q (O.pkB ⟨rfl, rfl⟩ (vt rfl) (vs rfl) (vt rfl))) ?_
      refine W.q (QV.q (O.mv ⟨rfl, rfl⟩ (vt rfl))) ?_
      first | refine W.q (QV.q (O.fb ⟨rfl, rfl⟩ (vt rfl))) ?_ | refine W.q (QV.q (O.fa ⟨rfl, rfl⟩ (vt rfl))) ?_
      refine W.q (QV.q (O.ld ⟨rfl, rfl⟩ (vs rfl))) ?_
      refine W.q (QV.q (O.eqS ⟨rfl, rfl⟩ (vs rfl) (vt rfl))) ?_
      refine W.q (QV.q (O.pkB ⟨rfl, rfl⟩ (vt rfl) (vs rfl) (vt rfl))) ?_
      refine W.q (QV.q (O.mv ⟨rfl, rfl⟩ (vt rfl))) ?_
      refine W.q (QV.q (O.mv ⟨rfl, rfl⟩ (vt rfl))) ?_
      refine W.q (O.call ⟨rfl, rfl⟩ (AV.cons (vs rfl) (AV.nil)) (fun _ w hw => law0_Num _ w)) ?_
      refine W.q (QV.q (O.eqI ⟨rfl, rfl⟩ (vs rfl) (vt rfl))) ?_
      refine W.q (QV.q (O.pkB ⟨rfl, rfl⟩ (vt rfl) (vs rfl) (vt rfl))) ?_
      refine W.q (QV.q (O.as ⟨rfl, rfl⟩ (vt rfl))) ?_
      refine WL.nil (Q.tn ?_)
      refine CW.ret ?_
      refine ⟨_, [], (RVs.tmp rfl RVs.nil), List.nil_sublist _, ?_⟩
      refine ⟨congrArg Value.bool ?_, rfl⟩
      first | (exfalso; cases hc1; done) | skip
      all_goals
        generalize (badsOf (1 + x % 1024)).getD (IntKind.i64.wrap (IntKind.u64.wrap which % 8)).toNat Dk.zero = b at *
        have f1 : decide (0 ≤ -(1 + x % 1024)) = false := by simp; omega
        simp only [Dk.eta, Dk.turned_no (.inl hm), hm, f1]
        show (_ : Bool) = true
        first | kernel_rfl | rfl
end Go.Proofs.Ytmhjcmpokjhhcaa
