/- What pinfoldlaw22.DiskLasts answers: true. Conditions: the texts are not longer than some 2^47 bytes. -/
import Derived.Test.YtmhjcmpokjhhcaaDiskSwaps
import Derived.Test.YtmhjcmpokjhhcaaSlices
set_option linter.unusedVariables false
set_option linter.unusedSimpArgs false
namespace Go.Proofs.Ytmhjcmpokjhhcaa
open Go Go.RowKit
structure Las where
  i : Int
  log : List UInt8
  syn : List UInt8
theorem y_Append {log s : List UInt8} {syn : Int} (w : World) (h1 : log.length + s.length ≤ 2048) (h2 : 0 ≤ syn ∧ syn ≤ log.length) :
    Fn Try.prog 13 [.agg #[.string (S log), .int .i64 syn, .bool false, .string (S []), .int .i64 0], .string (S s)] w [] fun v L' => v = .tuple #[.agg #[.string (S (log ++ s)), .int .i64 syn, .bool false, .string (S []), .int .i64 0], .int .i64 0] ∧ L' = [] := by
  have := x_Append (log := log) (nxt := []) (s := s) (syn := syn) (kep := 0) (bes := false) w (by simp only [top]; omega) (by simp [top]) (by simp only [top]; omega)
  rw [Dk.turned_ok ⟨t_may (.inr ⟨rfl, rfl⟩) (by simp; omega) h2.1 h2.2 (by omega) (by simp), rfl⟩ (by simp [Dk.app]; omega)] at this
  exact this
theorem y_Sync {log : List UInt8} {syn : Int} (w : World) (h1 : log.length ≤ 2048) (h2 : 0 ≤ syn ∧ syn ≤ log.length) :
    Fn Try.prog 15 [.agg #[.string (S log), .int .i64 syn, .bool false, .string (S []), .int .i64 0]] w [] fun v L' => v = .tuple #[.agg #[.string (S log), .int .i64 log.length, .bool false, .string (S []), .int .i64 0], .int .i64 0] ∧ L' = [] := by
  have := x_Sync (log := log) (nxt := []) (syn := syn) (kep := 0) (bes := false) w (by simp only [top]; omega) (by simp [top])
  rw [Dk.turned_syncd (t_may (.inr ⟨rfl, rfl⟩) (by simp; omega) h2.1 h2.2 (by omega) (by simp))] at this
  exact this
theorem len_getD {xs : List (List UInt8)} {k : Nat} (h : ∀ t ∈ xs, t.length ≤ k) (j : Nat) : (xs.getD j []).length ≤ k := by
  rw [List.getD_eq_getElem?_getD]
  cases e : xs[j]? with
  | none => simp
  | some t => exact h t (List.mem_of_getElem? e)
theorem las_want {log syn : List UInt8} {k : Int} (hk : 0 ≤ k) (hs : ∃ t, log = syn ++ t) :
    syn ++ (log.take (min (log.length : Int) (syn.length + k)).toNat).drop (syn.length : Int).toNat = log.take ((syn.length : Int) + min k (log.length - syn.length)).toNat ∧ ((log.take ((syn.length : Int) + min k (log.length - syn.length)).toNat).length : Int) = (syn.length : Int) + min k (log.length - syn.length) := by
  obtain ⟨t, rfl⟩ := hs
  have e : (min ((syn ++ t).length : Int) (syn.length + k)).toNat = ((syn.length : Int) + min k ((syn ++ t).length - syn.length)).toNat := by omega
  rw [e]
  generalize hm : ((syn.length : Int) + min k ((syn ++ t).length - syn.length)).toNat = m
  have h1 : syn.length ≤ m := by simp at hm; omega
  have h2 : m ≤ (syn ++ t).length := by simp at hm ⊢; omega
  constructor
  · rw [Int.toNat_natCast, List.take_append, List.drop_append, List.take_of_length_le h1, List.drop_eq_nil_of_le (Nat.le_refl _)]; simp
  · rw [List.length_take, Nat.min_eq_left h2]; omega
theorem las_cut {log syn : List UInt8} {k : Int} {bes : Bool} {nxt : List UInt8} {kep : Int} (hk : 0 ≤ k) (hs : ∃ t, log = syn ++ t) (h1 : bes = true ∨ nxt = [] ∧ kep = 0) (h2 : log.length + nxt.length ≤ 2048) (h5 : 0 ≤ kep) (h6 : kep ≤ nxt.length) (hsl : syn.length ≤ log.length) :
    (⟨log, syn.length, bes, nxt, kep⟩ : Dk).turned (decide (0 ≤ k)) ((⟨log, syn.length, bes, nxt, kep⟩ : Dk).cut k) = (⟨syn ++ (log.take (min (log.length : Int) (syn.length + k)).toNat).drop (syn.length : Int).toNat, (syn ++ (log.take (min (log.length : Int) (syn.length + k)).toNat).drop (syn.length : Int).toNat).length, false, [], 0⟩, 0) := by
  rw [Dk.turned_cut (t_may h1 h2 (by omega) (by omega) h5 h6) hk, (las_want hk hs).1, (las_want hk hs).2]
  rfl
theorem las_beg {log syn t : List UInt8} (h : log.length + t.length ≤ 2048) (hsl : syn.length ≤ log.length) : (⟨log, syn.length, false, [], 0⟩ : Dk).turned true ((⟨log, syn.length, false, [], 0⟩ : Dk).beg t) = (⟨log, syn.length, true, t, 0⟩, 0) :=
  Dk.turned_ok ⟨t_may (.inr ⟨rfl, rfl⟩) (by simp; omega) (by omega) (by omega) (by omega) (by simp), rfl⟩ (by simp [Dk.beg]; omega)
theorem las_begNo {log syn t : List UInt8} (h0 : log.length ≤ 2048) (h : ¬ log.length + t.length ≤ 2048) (hsl : syn.length ≤ log.length) : (⟨log, syn.length, false, [], 0⟩ : Dk).turned true ((⟨log, syn.length, false, [], 0⟩ : Dk).beg t) = (⟨[], 0, false, [], 0⟩, 2201) :=
  Dk.turned_full ⟨t_may (.inr ⟨rfl, rfl⟩) (by simp; omega) (by omega) (by omega) (by omega) (by simp), rfl⟩ (by simp [Dk.beg]; omega)
theorem las_ext {log syn u : List UInt8} (h : ∃ t, log = syn ++ t) : ∃ t, log ++ u = syn ++ t := by
  obtain ⟨t, rfl⟩ := h; exact ⟨t ++ u, List.append_assoc _ _ _⟩
theorem las_self {l : List UInt8} : ∃ t, l = l ++ t := ⟨[], (List.append_nil l).symm⟩
set_option maxRecDepth 100000 in
theorem law22_DiskLasts (texts : List (List UInt8)) (a0 : Option Addr) (c0 : Nat) (rows : List Int) (a1 : Option Addr) (c1 : Nat) (keep : Int) (w : World) (r0 : In w a0 (texts.flatMap encS)) (r1 : In w a1 (rows.flatMap encI)) (hx : ∀ t ∈ texts, t.length ≤ top) (hy : rows.length ≤ top) :
    Fn Try.prog 4 [.slice a0 texts.length c0, .slice a1 rows.length c1, .int .i64 keep] w [] fun v L' => v = .bool true ∧ L' = [] := by
  haveI R0 := Row.of [] r0 (fun _ => rfl) (by decide)
  haveI R1 := Row.of 0 r1 (fun _ => rfl) (by decide)
  have hT : (top : Nat) = 140737488351232 := rfl
  simp only [top] at hy
  refine Fn.enter Try.func4 rfl rfl rfl rfl (Holds.nil w) ?_
  refine CW.seq ?_
  refine CW.region ?_
  refine W.q (QV.q (O.as ⟨rfl, rfl⟩ (vt rfl))) ?_
  refine WL.nil (Q.tn ?_)
  refine CW.seq ?_
  refine CW.seq ?_
  refine CW.region ?_
  refine W.q (O.call ⟨rfl, rfl⟩ (AV.nil) (fun _ w hw => law22_awake w)) ?_
  refine W.q (QV.q (O.nt ⟨rfl, rfl⟩ (vt rfl))) ?_
  refine WL.nil (Q.tn ?_)
  refine CW.cond (vt rfl) (fun hc1 => ?_) (fun hc1 => ?_)
  · refine CW.seq ?_
    refine CW.region ?_
    refine W.q (QV.q (O.as ⟨rfl, rfl⟩ (vt rfl))) ?_
    refine WL.nil (Q.tn ?_)
    refine CW.ret (Q.tr ?_)
    refine ⟨_, [], (RVs.tmp rfl RVs.nil), List.nil_sublist _, ?_⟩
    refine ⟨congrArg Value.bool ?_, rfl⟩
    first | (exfalso; cases hc1; done) | skip
    all_goals first | (exfalso; simp only [decide_true, Bool.not_true, Bool.false_eq_true] at *; done) | skip
    all_goals have hk : 0 ≤ keep % 1024 := by omega
    all_goals have f3 := las_cut (nxt := []) (kep := 0) (bes := false) hk hs (.inr ⟨rfl, rfl⟩) (by simp; omega) (by omega) (by simp) hsl
    all_goals by_cases hb : log.length + [98, 101, 115, 105, 100, (101 : UInt8)].length ≤ 2048
    all_goals first | have f1 := las_beg hb hsl | have f1 := las_begNo hl hb hsl
    all_goals first | (have f2 := las_cut (kep := 0) (bes := true) hk hs (.inl rfl) hb (by omega) (by simp) hsl) | skip
    all_goals first | (exfalso; simp [f1, f2, f3] at hc10 hc11; done) | (exfalso; simp [f1] at hc10; done) | (simp [f1, f2, f3]; done) | (simp [f1, f3]; done)
  · refine CW.skip (Q.tn ?_)
    refine CW.seq ?_
    refine CW.region ?_
    refine W.al rfl rfl fun b1 => ?_
    refine WL.nil (Q.tn ?_)
    refine CW.seq ?_
    refine CW.region ?_
    refine W.q (QV.q (O.as ⟨rfl, rfl⟩ (vt rfl))) ?_
    refine W.q (QV.q (O.as ⟨rfl, rfl⟩ (vt rfl))) ?_
    refine WL.nil (Q.tn ?_)
    refine CW.seq ?_
    refine CW.seq ?_
    refine CW.region ?_
    refine W.q (QV.q (O.as ⟨rfl, rfl⟩ (vt rfl))) ?_
    refine WL.nil (Q.tn ?_)
    refine CW.block ?_
    refine CW.loop (X := Las) (fun x => [(10, true, .int .i64 x.i), (8, true, .string (S x.log)), (9, true, .string (S x.syn)), (0, true, .slice a0 texts.length c0), (1, true, .slice a1 rows.length c1), (2, true, .int .i64 keep), (7, true, .pointer (some ⟨b1, 0, none⟩))]) (fun x => [(b1, .cells [.string (S x.log), .int .i64 x.syn.length, .bool false, .string (S []), .int .i64 0].toArray 23 (0, 0))]) (fun x => x.log.length ≤ 2048 ∧ (∃ t, x.log = x.syn ++ t) ∧ x.syn.length ≤ x.log.length ∧ 0 ≤ x.i ∧ x.i ≤ 12) (fun x => (12 - x.i).toNat) ⟨0, [], []⟩ ⟨by simp, ⟨[], rfl⟩, by simp, by simp, by simp⟩ ⟨rfl, rfl, rfl, rfl, rfl, rfl, rfl, trivial⟩ (List.Sublist.refl _) ?_
    rintro ⟨i, log, syn⟩ ⟨hl, hs, hsl, hi0, hi1⟩
    dsimp only at hl hs hsl hi0 hi1 ⊢
    have ht := len_getD hx i.toNat
    simp only [top] at ht
    refine CW.seq ?_
    refine CW.seq ?_
    refine CW.region ?_
    refine W.q (QV.q (O.mv ⟨rfl, rfl⟩ (vt rfl))) ?_
    refine W.q (QV.q (O.mv ⟨rfl, rfl⟩ (vt rfl))) ?_
    refine W.q (QV.q (O.lenL ⟨rfl, rfl⟩ (vt rfl))) ?_
    refine W.q (QV.q (O.lss ⟨rfl, rfl⟩ (vt rfl) (vt rfl))) ?_
    refine W.q (QV.q (O.mv ⟨rfl, rfl⟩ (vt rfl))) ?_
    refine W.q (QV.q (O.mv ⟨rfl, rfl⟩ (vt rfl))) ?_
    refine W.q (QV.q (O.lss ⟨rfl, rfl⟩ (vs rfl) (vt rfl))) ?_
    refine W.q (QV.q (O.pkB ⟨rfl, rfl⟩ (vt rfl) (vs rfl) (vt rfl))) ?_
    refine WL.nil (Q.tn ?_)
    refine CW.cond (vt rfl) (fun hc2 => ?_) (fun hc2 => ?_)
    · refine CW.skip (Q.tn ?_)
      refine CW.seq ?_
      refine CW.block ?_
      refine CW.seq ?_
      refine CW.seq ?_
      refine CW.region ?_
      refine W.q (QV.q (O.mv ⟨rfl, rfl⟩ (vt rfl))) ?_
      refine W.q (QV.q (O.len ⟨rfl, rfl⟩ (vt rfl))) ?_
      refine W.q (QV.q (O.mv ⟨rfl, rfl⟩ (vt rfl))) ?_
      refine W.q (QV.q (O.mv ⟨rfl, rfl⟩ (vt rfl))) ?_
      refine W.q (QV.q (O.ixA ⟨rfl, rfl⟩ (vt rfl) (vt rfl) (by first | rfl | omega) (fun hg => by first | omega | (simp only [cond_true, cond_false, Bool.true_and, Bool.cond_false_right, Bool.cond_true_left, Bool.and_eq_true, Bool.or_eq_true, decide_eq_true_eq] at *; omega)))) ?_
      refine W.q (QV.q (O.ldE ⟨rfl, rfl⟩ (vt rfl) (fun hg => by first | omega | (simp only [cond_true, cond_false, Bool.true_and, Bool.cond_false_right, Bool.cond_true_left, Bool.and_eq_true, Bool.or_eq_true, decide_eq_true_eq] at *; omega)))) ?_
      refine W.q (QV.q (O.len ⟨rfl, rfl⟩ (vt rfl))) ?_
      first | refine W.q (QV.q (O.addN ⟨rfl, rfl⟩ (vt rfl) (vt rfl) (fun _ => by omega))) ?_ | refine W.q (QV.q (O.add ⟨rfl, rfl⟩ (vt rfl) (vt rfl))) ?_
      refine W.q (QV.q (O.gtr ⟨rfl, rfl⟩ (vt rfl) (vt rfl))) ?_
      refine WL.nil (Q.tn ?_)
      refine CW.cond (vt rfl) (fun hc3 => ?_) (fun hc3 => ?_)
      · refine CW.exit (Q.te (Q.bx (Q.tn ?_)))
        refine CW.region ?_
        refine W.q (QV.q (O.mv ⟨rfl, rfl⟩ (vt rfl))) ?_
        first | refine W.q (QV.q (O.addN ⟨rfl, rfl⟩ (vt rfl) (vt rfl) (fun _ => by omega))) ?_ | refine W.q (QV.q (O.add ⟨rfl, rfl⟩ (vt rfl) (vt rfl))) ?_
        refine W.q (QV.q (O.as ⟨rfl, rfl⟩ (vt rfl))) ?_
        refine WL.nil (Q.tn ?_)
        refine ⟨⟨i + 1, _, _⟩, ⟨?_, ?_, ?_, ?_, ?_⟩, ?_, ⟨rfl, rfl, rfl, rfl, rfl, rfl, rfl, trivial⟩, ?_⟩
        all_goals first | exact hs | exact las_ext hs | exact las_self | skip
        all_goals first | exact List.Sublist.refl _ | exact List.Sublist.cons _ (List.Sublist.refl _) | exact List.Sublist.cons _ (List.Sublist.cons _ (List.Sublist.refl _)) | skip
        all_goals (simp only [List.length_append, decide_eq_true_eq, decide_eq_false_iff_not, Bool.cond_false_right, Bool.and_eq_true] at *; omega)
      · refine CW.skip (Q.tn ?_)
        refine CW.seq ?_
        refine CW.drawHL rfl ?_
        refine RH.q 0 (fun _ _ _ h => h) rfl (by kernel_rfl) (by repeat (first | exact List.nil_sublist _ | exact List.Sublist.refl _ | apply List.Sublist.cons₂ | apply List.Sublist.cons)) (O.lds ⟨rfl, rfl⟩ (vt rfl)) ?_
        refine RH.q 1 (fun _ _ _ h => h) rfl (by kernel_rfl) (by repeat (first | exact List.nil_sublist _ | exact List.Sublist.refl _ | apply List.Sublist.cons₂ | apply List.Sublist.cons)) (O.mv ⟨rfl, rfl⟩ (vt rfl)) ?_
        refine RH.q 2 (fun _ _ _ h => h) rfl (by kernel_rfl) (by repeat (first | exact List.nil_sublist _ | exact List.Sublist.refl _ | apply List.Sublist.cons₂ | apply List.Sublist.cons)) (O.mv ⟨rfl, rfl⟩ (vt rfl)) ?_
        refine RH.q 3 (fun _ _ _ h => h) rfl (by kernel_rfl) (by repeat (first | exact List.nil_sublist _ | exact List.Sublist.refl _ | apply List.Sublist.cons₂ | apply List.Sublist.cons)) (O.ixA ⟨rfl, rfl⟩ (vt rfl) (vt rfl) (by first | rfl | omega) (fun hg => by first | omega | (simp only [cond_true, cond_false, Bool.true_and, Bool.cond_false_right, Bool.cond_true_left, Bool.and_eq_true, Bool.or_eq_true, decide_eq_true_eq] at *; omega))) ?_
        refine RH.q 4 (fun _ _ _ h => h) rfl (by kernel_rfl) (by repeat (first | exact List.nil_sublist _ | exact List.Sublist.refl _ | apply List.Sublist.cons₂ | apply List.Sublist.cons)) (O.ldE ⟨rfl, rfl⟩ (vt rfl) (fun hg => by first | omega | (simp only [cond_true, cond_false, Bool.true_and, Bool.cond_false_right, Bool.cond_true_left, Bool.and_eq_true, Bool.or_eq_true, decide_eq_true_eq] at *; omega))) ?_
        refine RH.two (i := 5) (j := 9) (fun _ _ h => h) (by kernel_rfl) rfl rfl ?_ ?_
        · refine W.q (O.call ⟨rfl, rfl⟩ (AV.cons (vt rfl) (AV.cons (vt rfl) (AV.nil))) (fun _ w hw => y_Append w (by simp only [decide_eq_true_eq, decide_eq_false_iff_not] at *; omega) ⟨by omega, by omega⟩)) ?_
          refine WL.nilQn ⟨(by repeat (first | exact List.nil_sublist _ | exact List.Sublist.refl _ | apply List.Sublist.cons₂ | apply List.Sublist.cons)), ?_⟩
          refine RH.q 6 (fun _ _ _ h => h) rfl (by kernel_rfl) (by repeat (first | exact List.nil_sublist _ | exact List.Sublist.refl _ | apply List.Sublist.cons₂ | apply List.Sublist.cons)) (O.mv ⟨rfl, rfl⟩ (vt rfl)) ?_
          refine RH.q 7 (fun _ _ _ h => h) rfl (by kernel_rfl) (by repeat (first | exact List.nil_sublist _ | exact List.Sublist.refl _ | apply List.Sublist.cons₂ | apply List.Sublist.cons)) (O.ext ⟨rfl, rfl⟩ (vt rfl) rfl) ?_
          refine RH.q 8 (fun _ _ _ h => h) rfl (by kernel_rfl) (by repeat (first | exact List.nil_sublist _ | exact List.Sublist.refl _ | apply List.Sublist.cons₂ | apply List.Sublist.cons)) (O.ext ⟨rfl, rfl⟩ (vt rfl) rfl) ?_
          refine RH.one (i := 9) (fun _ _ h => h) (by kernel_rfl) rfl ?_
          refine W.al rfl rfl fun b2 => ?_
          refine WL.nilQn ⟨(by repeat (first | exact List.nil_sublist _ | exact List.Sublist.refl _ | apply List.Sublist.cons₂ | apply List.Sublist.cons)), ?_⟩
          refine RH.one (i := 10) (fun _ _ h => h) (by kernel_rfl) rfl ?_
          refine W.st (vt rfl) (vt rfl) rfl ?_
          refine WL.nilQn ⟨(by repeat (first | exact List.nil_sublist _ | exact List.Sublist.refl _ | apply List.Sublist.cons₂ | apply List.Sublist.cons)), ?_⟩
          refine RH.q 11 (fun _ _ _ h => h) rfl (by kernel_rfl) (by repeat (first | exact List.nil_sublist _ | exact List.Sublist.refl _ | apply List.Sublist.cons₂ | apply List.Sublist.cons)) (O.as ⟨rfl, rfl⟩ (vt rfl)) ?_
          refine RH.done (by kernel_rfl) (Q.tn ?_)
          refine CW.seq ?_
          refine CW.seq ?_
          refine CW.region ?_
          refine W.q (QV.q (O.mv ⟨rfl, rfl⟩ (vt rfl))) ?_
          refine W.q (O.call ⟨rfl, rfl⟩ (AV.cons (vt rfl) (AV.nil)) (fun _ w hw => law0_Num _ w)) ?_
          refine W.q (QV.q (O.neI ⟨rfl, rfl⟩ (vt rfl) (vt rfl))) ?_
          refine WL.nil (Q.tn ?_)
          refine CW.cond (vt rfl) (fun hc4 => ?_) (fun hc4 => ?_)
          · refine CW.seq ?_
            refine CW.region ?_
            refine W.q (QV.q (O.as ⟨rfl, rfl⟩ (vt rfl))) ?_
            refine WL.nil (Q.tn ?_)
            refine CW.ret (Q.tr (Q.br (Q.tr (Q.tr (Q.br (Q.tr ?_))))))
            refine ⟨_, [], (RVs.tmp rfl RVs.nil), List.nil_sublist _, ?_⟩
            refine ⟨congrArg Value.bool ?_, rfl⟩
            first | (exfalso; cases hc1; done) | skip
            all_goals first | (exfalso; simp only [decide_true, Bool.not_true, Bool.false_eq_true] at *; done) | skip
            all_goals have hk : 0 ≤ keep % 1024 := by omega
            all_goals have f3 := las_cut (nxt := []) (kep := 0) (bes := false) hk hs (.inr ⟨rfl, rfl⟩) (by simp; omega) (by omega) (by simp) hsl
            all_goals by_cases hb : log.length + [98, 101, 115, 105, 100, (101 : UInt8)].length ≤ 2048
            all_goals first | have f1 := las_beg hb hsl | have f1 := las_begNo hl hb hsl
            all_goals first | (have f2 := las_cut (kep := 0) (bes := true) hk hs (.inl rfl) hb (by omega) (by simp) hsl) | skip
            all_goals first | (exfalso; simp [f1, f2, f3] at hc10 hc11; done) | (exfalso; simp [f1] at hc10; done) | (simp [f1, f2, f3]; done) | (simp [f1, f3]; done)
          · refine CW.skip (Q.tn ?_)
            refine CW.seq ?_
            refine CW.region ?_
            refine W.q (QV.q (O.lds ⟨rfl, rfl⟩ (vt rfl))) ?_
            refine W.st (vt rfl) (vt rfl) rfl ?_
            refine WL.nil (Q.tn ?_)
            refine CW.seq ?_
            refine CW.region ?_
            refine W.q (QV.q (O.mv ⟨rfl, rfl⟩ (vt rfl))) ?_
            refine W.q (QV.q (O.mv ⟨rfl, rfl⟩ (vt rfl))) ?_
            refine W.q (QV.q (O.mv ⟨rfl, rfl⟩ (vt rfl))) ?_
            refine W.q (QV.q (O.ixA ⟨rfl, rfl⟩ (vt rfl) (vt rfl) (by first | rfl | omega) (fun hg => by first | omega | (simp only [cond_true, cond_false, Bool.true_and, Bool.cond_false_right, Bool.cond_true_left, Bool.and_eq_true, Bool.or_eq_true, decide_eq_true_eq] at *; omega)))) ?_
            refine W.q (QV.q (O.ldE ⟨rfl, rfl⟩ (vt rfl) (fun hg => by first | omega | (simp only [cond_true, cond_false, Bool.true_and, Bool.cond_false_right, Bool.cond_true_left, Bool.and_eq_true, Bool.or_eq_true, decide_eq_true_eq] at *; omega)))) ?_
            refine W.q (QV.q (O.addS ⟨rfl, rfl⟩ (vt rfl) (vt rfl) (fun _ => by first | omega | (simp; omega)))) ?_
            refine W.q (QV.q (O.as ⟨rfl, rfl⟩ (vt rfl))) ?_
            refine WL.nil (Q.tn ?_)
            refine CW.seq ?_
            refine CW.region ?_
            refine W.q (QV.q (O.mv ⟨rfl, rfl⟩ (vt rfl))) ?_
            refine W.q (QV.q (O.mv ⟨rfl, rfl⟩ (vt rfl))) ?_
            refine W.q (QV.q (O.lenL ⟨rfl, rfl⟩ (vt rfl))) ?_
            refine W.q (QV.q (O.lss ⟨rfl, rfl⟩ (vt rfl) (vt rfl))) ?_
            refine W.q (QV.q (O.mv ⟨rfl, rfl⟩ (vt rfl))) ?_
            refine W.q (QV.q (O.mv ⟨rfl, rfl⟩ (vt rfl))) ?_
            refine W.q (QV.q (O.mv ⟨rfl, rfl⟩ (vt rfl))) ?_
            refine W.q (QV.q (O.ixA ⟨rfl, rfl⟩ (vs rfl) (vs rfl) (by first | rfl | omega) (fun hg => by first | omega | (simp only [cond_true, cond_false, Bool.true_and, Bool.cond_false_right, Bool.cond_true_left, Bool.and_eq_true, Bool.or_eq_true, decide_eq_true_eq] at *; omega)))) ?_
            refine W.q (QV.q (O.ldE ⟨rfl, rfl⟩ (vs rfl) (fun hg => by first | omega | (simp only [cond_true, cond_false, Bool.true_and, Bool.cond_false_right, Bool.cond_true_left, Bool.and_eq_true, Bool.or_eq_true, decide_eq_true_eq] at *; omega)))) ?_
            refine W.q (QV.q (O.andM 1 2 ⟨rfl, rfl⟩ (vs rfl) (vt rfl) (by decide) (by decide) (by decide))) ?_
            refine W.q (QV.q (O.eqI ⟨rfl, rfl⟩ (vs rfl) (vt rfl))) ?_
            refine W.q (QV.q (O.pkB ⟨rfl, rfl⟩ (vt rfl) (vs rfl) (vt rfl))) ?_
            refine WL.nil (Q.tn ?_)
            refine CW.cond (vt rfl) (fun hc5 => ?_) (fun hc5 => ?_)
            · refine CW.seq ?_
              refine CW.region ?_
              refine W.q (QV.q (O.lds ⟨rfl, rfl⟩ (vt rfl))) ?_
              refine W.q (O.call ⟨rfl, rfl⟩ (AV.cons (vt rfl) (AV.nil)) (fun _ w hw => y_Sync w (by simp only [List.length_append, decide_eq_true_eq, decide_eq_false_iff_not] at *; omega) (by simp only [List.length_append] at *; omega))) ?_
              refine W.q (QV.q (O.mv ⟨rfl, rfl⟩ (vt rfl))) ?_
              refine W.q (QV.q (O.ext ⟨rfl, rfl⟩ (vt rfl) rfl)) ?_
              refine W.q (QV.q (O.ext ⟨rfl, rfl⟩ (vt rfl) rfl)) ?_
              refine W.al rfl rfl fun b3 => ?_
              refine W.st (vt rfl) (vt rfl) rfl ?_
              refine W.q (QV.q (O.as ⟨rfl, rfl⟩ (vt rfl))) ?_
              refine WL.nil (Q.tn ?_)
              refine CW.seq ?_
              refine CW.seq ?_
              refine CW.region ?_
              refine W.q (QV.q (O.mv ⟨rfl, rfl⟩ (vt rfl))) ?_
              refine W.q (O.call ⟨rfl, rfl⟩ (AV.cons (vt rfl) (AV.nil)) (fun _ w hw => law0_Num _ w)) ?_
              refine W.q (QV.q (O.neI ⟨rfl, rfl⟩ (vt rfl) (vt rfl))) ?_
              refine WL.nil (Q.tn ?_)
              refine CW.cond (vt rfl) (fun hc6 => ?_) (fun hc6 => ?_)
              · refine CW.seq ?_
                refine CW.region ?_
                refine W.q (QV.q (O.as ⟨rfl, rfl⟩ (vt rfl))) ?_
                refine WL.nil (Q.tn ?_)
                refine CW.ret (Q.tr (Q.br (Q.tr (Q.tr (Q.br (Q.tr ?_))))))
                refine ⟨_, [], (RVs.tmp rfl RVs.nil), List.nil_sublist _, ?_⟩
                refine ⟨congrArg Value.bool ?_, rfl⟩
                first | (exfalso; cases hc1; done) | skip
                all_goals first | (exfalso; simp only [decide_true, Bool.not_true, Bool.false_eq_true] at *; done) | skip
                all_goals have hk : 0 ≤ keep % 1024 := by omega
                all_goals have f3 := las_cut (nxt := []) (kep := 0) (bes := false) hk hs (.inr ⟨rfl, rfl⟩) (by simp; omega) (by omega) (by simp) hsl
                all_goals by_cases hb : log.length + [98, 101, 115, 105, 100, (101 : UInt8)].length ≤ 2048
                all_goals first | have f1 := las_beg hb hsl | have f1 := las_begNo hl hb hsl
                all_goals first | (have f2 := las_cut (kep := 0) (bes := true) hk hs (.inl rfl) hb (by omega) (by simp) hsl) | skip
                all_goals first | (exfalso; simp [f1, f2, f3] at hc10 hc11; done) | (exfalso; simp [f1] at hc10; done) | (simp [f1, f2, f3]; done) | (simp [f1, f3]; done)
              · refine CW.skip (Q.tn ?_)
                refine CW.seq ?_
                refine CW.region ?_
                refine W.q (QV.q (O.lds ⟨rfl, rfl⟩ (vt rfl))) ?_
                refine W.st (vt rfl) (vt rfl) rfl ?_
                refine WL.nil (Q.tn ?_)
                refine CW.region ?_
                refine W.q (QV.q (O.mv ⟨rfl, rfl⟩ (vt rfl))) ?_
                refine W.q (QV.q (O.as ⟨rfl, rfl⟩ (vt rfl))) ?_
                refine WL.nil (Q.bn (Q.tn ?_))
                refine CW.region ?_
                refine W.q (QV.q (O.mv ⟨rfl, rfl⟩ (vt rfl))) ?_
                first | refine W.q (QV.q (O.addN ⟨rfl, rfl⟩ (vt rfl) (vt rfl) (fun _ => by omega))) ?_ | refine W.q (QV.q (O.add ⟨rfl, rfl⟩ (vt rfl) (vt rfl))) ?_
                refine W.q (QV.q (O.as ⟨rfl, rfl⟩ (vt rfl))) ?_
                refine WL.nil (Q.tn ?_)
                refine ⟨⟨i + 1, _, _⟩, ⟨?_, ?_, ?_, ?_, ?_⟩, ?_, ⟨rfl, rfl, rfl, rfl, rfl, rfl, rfl, trivial⟩, ?_⟩
                all_goals first | exact hs | exact las_ext hs | exact las_self | skip
                all_goals first | exact List.Sublist.refl _ | exact List.Sublist.cons _ (List.Sublist.refl _) | exact List.Sublist.cons _ (List.Sublist.cons _ (List.Sublist.refl _)) | skip
                all_goals (simp only [List.length_append, decide_eq_true_eq, decide_eq_false_iff_not, Bool.cond_false_right, Bool.and_eq_true] at *; omega)
            · refine CW.skip (Q.bn (Q.tn ?_))
              refine CW.region ?_
              refine W.q (QV.q (O.mv ⟨rfl, rfl⟩ (vt rfl))) ?_
              first | refine W.q (QV.q (O.addN ⟨rfl, rfl⟩ (vt rfl) (vt rfl) (fun _ => by omega))) ?_ | refine W.q (QV.q (O.add ⟨rfl, rfl⟩ (vt rfl) (vt rfl))) ?_
              refine W.q (QV.q (O.as ⟨rfl, rfl⟩ (vt rfl))) ?_
              refine WL.nil (Q.tn ?_)
              refine ⟨⟨i + 1, _, _⟩, ⟨?_, ?_, ?_, ?_, ?_⟩, ?_, ⟨rfl, rfl, rfl, rfl, rfl, rfl, rfl, trivial⟩, ?_⟩
              all_goals first | exact hs | exact las_ext hs | exact las_self | skip
              all_goals first | exact List.Sublist.refl _ | exact List.Sublist.cons _ (List.Sublist.refl _) | exact List.Sublist.cons _ (List.Sublist.cons _ (List.Sublist.refl _)) | skip
              all_goals (simp only [List.length_append, decide_eq_true_eq, decide_eq_false_iff_not, Bool.cond_false_right, Bool.and_eq_true] at *; omega)
        · refine W.al rfl rfl fun b4 => ?_
          refine WL.nilQn ⟨(by repeat (first | exact List.nil_sublist _ | exact List.Sublist.refl _ | apply List.Sublist.cons₂ | apply List.Sublist.cons)), ?_⟩
          refine RH.one (i := 5) (fun _ _ h => h) (by kernel_rfl) rfl ?_
          refine W.q (O.call ⟨rfl, rfl⟩ (AV.cons (vt rfl) (AV.cons (vt rfl) (AV.nil))) (fun _ w hw => y_Append w (by simp only [decide_eq_true_eq, decide_eq_false_iff_not] at *; omega) ⟨by omega, by omega⟩)) ?_
          refine WL.nilQn ⟨(by repeat (first | exact List.nil_sublist _ | exact List.Sublist.refl _ | apply List.Sublist.cons₂ | apply List.Sublist.cons)), ?_⟩
          refine RH.q 6 (fun _ _ _ h => h) rfl (by kernel_rfl) (by repeat (first | exact List.nil_sublist _ | exact List.Sublist.refl _ | apply List.Sublist.cons₂ | apply List.Sublist.cons)) (O.mv ⟨rfl, rfl⟩ (vt rfl)) ?_
          refine RH.q 7 (fun _ _ _ h => h) rfl (by kernel_rfl) (by repeat (first | exact List.nil_sublist _ | exact List.Sublist.refl _ | apply List.Sublist.cons₂ | apply List.Sublist.cons)) (O.ext ⟨rfl, rfl⟩ (vt rfl) rfl) ?_
          refine RH.q 8 (fun _ _ _ h => h) rfl (by kernel_rfl) (by repeat (first | exact List.nil_sublist _ | exact List.Sublist.refl _ | apply List.Sublist.cons₂ | apply List.Sublist.cons)) (O.ext ⟨rfl, rfl⟩ (vt rfl) rfl) ?_
          refine RH.one (i := 10) (fun _ _ h => h) (by kernel_rfl) rfl ?_
          refine W.st (vt rfl) (vt rfl) rfl ?_
          refine WL.nilQn ⟨(by repeat (first | exact List.nil_sublist _ | exact List.Sublist.refl _ | apply List.Sublist.cons₂ | apply List.Sublist.cons)), ?_⟩
          refine RH.q 11 (fun _ _ _ h => h) rfl (by kernel_rfl) (by repeat (first | exact List.nil_sublist _ | exact List.Sublist.refl _ | apply List.Sublist.cons₂ | apply List.Sublist.cons)) (O.as ⟨rfl, rfl⟩ (vt rfl)) ?_
          refine RH.done (by kernel_rfl) (Q.tn ?_)
          refine CW.seq ?_
          refine CW.seq ?_
          refine CW.region ?_
          refine W.q (QV.q (O.mv ⟨rfl, rfl⟩ (vt rfl))) ?_
          refine W.q (O.call ⟨rfl, rfl⟩ (AV.cons (vt rfl) (AV.nil)) (fun _ w hw => law0_Num _ w)) ?_
          refine W.q (QV.q (O.neI ⟨rfl, rfl⟩ (vt rfl) (vt rfl))) ?_
          refine WL.nil (Q.tn ?_)
          refine CW.cond (vt rfl) (fun hc7 => ?_) (fun hc7 => ?_)
          · refine CW.seq ?_
            refine CW.region ?_
            refine W.q (QV.q (O.as ⟨rfl, rfl⟩ (vt rfl))) ?_
            refine WL.nil (Q.tn ?_)
            refine CW.ret (Q.tr (Q.br (Q.tr (Q.tr (Q.br (Q.tr ?_))))))
            refine ⟨_, [], (RVs.tmp rfl RVs.nil), List.nil_sublist _, ?_⟩
            refine ⟨congrArg Value.bool ?_, rfl⟩
            first | (exfalso; cases hc1; done) | skip
            all_goals first | (exfalso; simp only [decide_true, Bool.not_true, Bool.false_eq_true] at *; done) | skip
            all_goals have hk : 0 ≤ keep % 1024 := by omega
            all_goals have f3 := las_cut (nxt := []) (kep := 0) (bes := false) hk hs (.inr ⟨rfl, rfl⟩) (by simp; omega) (by omega) (by simp) hsl
            all_goals by_cases hb : log.length + [98, 101, 115, 105, 100, (101 : UInt8)].length ≤ 2048
            all_goals first | have f1 := las_beg hb hsl | have f1 := las_begNo hl hb hsl
            all_goals first | (have f2 := las_cut (kep := 0) (bes := true) hk hs (.inl rfl) hb (by omega) (by simp) hsl) | skip
            all_goals first | (exfalso; simp [f1, f2, f3] at hc10 hc11; done) | (exfalso; simp [f1] at hc10; done) | (simp [f1, f2, f3]; done) | (simp [f1, f3]; done)
          · refine CW.skip (Q.tn ?_)
            refine CW.seq ?_
            refine CW.region ?_
            refine W.q (QV.q (O.lds ⟨rfl, rfl⟩ (vt rfl))) ?_
            refine W.st (vt rfl) (vt rfl) rfl ?_
            refine WL.nil (Q.tn ?_)
            refine CW.seq ?_
            refine CW.region ?_
            refine W.q (QV.q (O.mv ⟨rfl, rfl⟩ (vt rfl))) ?_
            refine W.q (QV.q (O.mv ⟨rfl, rfl⟩ (vt rfl))) ?_
            refine W.q (QV.q (O.mv ⟨rfl, rfl⟩ (vt rfl))) ?_
            refine W.q (QV.q (O.ixA ⟨rfl, rfl⟩ (vt rfl) (vt rfl) (by first | rfl | omega) (fun hg => by first | omega | (simp only [cond_true, cond_false, Bool.true_and, Bool.cond_false_right, Bool.cond_true_left, Bool.and_eq_true, Bool.or_eq_true, decide_eq_true_eq] at *; omega)))) ?_
            refine W.q (QV.q (O.ldE ⟨rfl, rfl⟩ (vt rfl) (fun hg => by first | omega | (simp only [cond_true, cond_false, Bool.true_and, Bool.cond_false_right, Bool.cond_true_left, Bool.and_eq_true, Bool.or_eq_true, decide_eq_true_eq] at *; omega)))) ?_
            refine W.q (QV.q (O.addS ⟨rfl, rfl⟩ (vt rfl) (vt rfl) (fun _ => by first | omega | (simp; omega)))) ?_
            refine W.q (QV.q (O.as ⟨rfl, rfl⟩ (vt rfl))) ?_
            refine WL.nil (Q.tn ?_)
            refine CW.seq ?_
            refine CW.region ?_
            refine W.q (QV.q (O.mv ⟨rfl, rfl⟩ (vt rfl))) ?_
            refine W.q (QV.q (O.mv ⟨rfl, rfl⟩ (vt rfl))) ?_
            refine W.q (QV.q (O.lenL ⟨rfl, rfl⟩ (vt rfl))) ?_
            refine W.q (QV.q (O.lss ⟨rfl, rfl⟩ (vt rfl) (vt rfl))) ?_
            refine W.q (QV.q (O.mv ⟨rfl, rfl⟩ (vt rfl))) ?_
            refine W.q (QV.q (O.mv ⟨rfl, rfl⟩ (vt rfl))) ?_
            refine W.q (QV.q (O.mv ⟨rfl, rfl⟩ (vt rfl))) ?_
            refine W.q (QV.q (O.ixA ⟨rfl, rfl⟩ (vs rfl) (vs rfl) (by first | rfl | omega) (fun hg => by first | omega | (simp only [cond_true, cond_false, Bool.true_and, Bool.cond_false_right, Bool.cond_true_left, Bool.and_eq_true, Bool.or_eq_true, decide_eq_true_eq] at *; omega)))) ?_
            refine W.q (QV.q (O.ldE ⟨rfl, rfl⟩ (vs rfl) (fun hg => by first | omega | (simp only [cond_true, cond_false, Bool.true_and, Bool.cond_false_right, Bool.cond_true_left, Bool.and_eq_true, Bool.or_eq_true, decide_eq_true_eq] at *; omega)))) ?_
            refine W.q (QV.q (O.andM 1 2 ⟨rfl, rfl⟩ (vs rfl) (vt rfl) (by decide) (by decide) (by decide))) ?_
            refine W.q (QV.q (O.eqI ⟨rfl, rfl⟩ (vs rfl) (vt rfl))) ?_
            refine W.q (QV.q (O.pkB ⟨rfl, rfl⟩ (vt rfl) (vs rfl) (vt rfl))) ?_
            refine WL.nil (Q.tn ?_)
            refine CW.cond (vt rfl) (fun hc8 => ?_) (fun hc8 => ?_)
            · refine CW.seq ?_
              refine CW.region ?_
              refine W.q (QV.q (O.lds ⟨rfl, rfl⟩ (vt rfl))) ?_
              refine W.q (O.call ⟨rfl, rfl⟩ (AV.cons (vt rfl) (AV.nil)) (fun _ w hw => y_Sync w (by simp only [List.length_append, decide_eq_true_eq, decide_eq_false_iff_not] at *; omega) (by simp only [List.length_append] at *; omega))) ?_
              refine W.q (QV.q (O.mv ⟨rfl, rfl⟩ (vt rfl))) ?_
              refine W.q (QV.q (O.ext ⟨rfl, rfl⟩ (vt rfl) rfl)) ?_
              refine W.q (QV.q (O.ext ⟨rfl, rfl⟩ (vt rfl) rfl)) ?_
              refine W.al rfl rfl fun b5 => ?_
              refine W.st (vt rfl) (vt rfl) rfl ?_
              refine W.q (QV.q (O.as ⟨rfl, rfl⟩ (vt rfl))) ?_
              refine WL.nil (Q.tn ?_)
              refine CW.seq ?_
              refine CW.seq ?_
              refine CW.region ?_
              refine W.q (QV.q (O.mv ⟨rfl, rfl⟩ (vt rfl))) ?_
              refine W.q (O.call ⟨rfl, rfl⟩ (AV.cons (vt rfl) (AV.nil)) (fun _ w hw => law0_Num _ w)) ?_
              refine W.q (QV.q (O.neI ⟨rfl, rfl⟩ (vt rfl) (vt rfl))) ?_
              refine WL.nil (Q.tn ?_)
              refine CW.cond (vt rfl) (fun hc9 => ?_) (fun hc9 => ?_)
              · refine CW.seq ?_
                refine CW.region ?_
                refine W.q (QV.q (O.as ⟨rfl, rfl⟩ (vt rfl))) ?_
                refine WL.nil (Q.tn ?_)
                refine CW.ret (Q.tr (Q.br (Q.tr (Q.tr (Q.br (Q.tr ?_))))))
                refine ⟨_, [], (RVs.tmp rfl RVs.nil), List.nil_sublist _, ?_⟩
                refine ⟨congrArg Value.bool ?_, rfl⟩
                first | (exfalso; cases hc1; done) | skip
                all_goals first | (exfalso; simp only [decide_true, Bool.not_true, Bool.false_eq_true] at *; done) | skip
                all_goals have hk : 0 ≤ keep % 1024 := by omega
                all_goals have f3 := las_cut (nxt := []) (kep := 0) (bes := false) hk hs (.inr ⟨rfl, rfl⟩) (by simp; omega) (by omega) (by simp) hsl
                all_goals by_cases hb : log.length + [98, 101, 115, 105, 100, (101 : UInt8)].length ≤ 2048
                all_goals first | have f1 := las_beg hb hsl | have f1 := las_begNo hl hb hsl
                all_goals first | (have f2 := las_cut (kep := 0) (bes := true) hk hs (.inl rfl) hb (by omega) (by simp) hsl) | skip
                all_goals first | (exfalso; simp [f1, f2, f3] at hc10 hc11; done) | (exfalso; simp [f1] at hc10; done) | (simp [f1, f2, f3]; done) | (simp [f1, f3]; done)
              · refine CW.skip (Q.tn ?_)
                refine CW.seq ?_
                refine CW.region ?_
                refine W.q (QV.q (O.lds ⟨rfl, rfl⟩ (vt rfl))) ?_
                refine W.st (vt rfl) (vt rfl) rfl ?_
                refine WL.nil (Q.tn ?_)
                refine CW.region ?_
                refine W.q (QV.q (O.mv ⟨rfl, rfl⟩ (vt rfl))) ?_
                refine W.q (QV.q (O.as ⟨rfl, rfl⟩ (vt rfl))) ?_
                refine WL.nil (Q.bn (Q.tn ?_))
                refine CW.region ?_
                refine W.q (QV.q (O.mv ⟨rfl, rfl⟩ (vt rfl))) ?_
                first | refine W.q (QV.q (O.addN ⟨rfl, rfl⟩ (vt rfl) (vt rfl) (fun _ => by omega))) ?_ | refine W.q (QV.q (O.add ⟨rfl, rfl⟩ (vt rfl) (vt rfl))) ?_
                refine W.q (QV.q (O.as ⟨rfl, rfl⟩ (vt rfl))) ?_
                refine WL.nil (Q.tn ?_)
                refine ⟨⟨i + 1, _, _⟩, ⟨?_, ?_, ?_, ?_, ?_⟩, ?_, ⟨rfl, rfl, rfl, rfl, rfl, rfl, rfl, trivial⟩, ?_⟩
                all_goals first | exact hs | exact las_ext hs | exact las_self | skip
                all_goals first | exact List.Sublist.refl _ | exact List.Sublist.cons _ (List.Sublist.refl _) | exact List.Sublist.cons _ (List.Sublist.cons _ (List.Sublist.refl _)) | skip
                all_goals (simp only [List.length_append, decide_eq_true_eq, decide_eq_false_iff_not, Bool.cond_false_right, Bool.and_eq_true] at *; omega)
            · refine CW.skip (Q.bn (Q.tn ?_))
              refine CW.region ?_
              refine W.q (QV.q (O.mv ⟨rfl, rfl⟩ (vt rfl))) ?_
              first | refine W.q (QV.q (O.addN ⟨rfl, rfl⟩ (vt rfl) (vt rfl) (fun _ => by omega))) ?_ | refine W.q (QV.q (O.add ⟨rfl, rfl⟩ (vt rfl) (vt rfl))) ?_
              refine W.q (QV.q (O.as ⟨rfl, rfl⟩ (vt rfl))) ?_
              refine WL.nil (Q.tn ?_)
              refine ⟨⟨i + 1, _, _⟩, ⟨?_, ?_, ?_, ?_, ?_⟩, ?_, ⟨rfl, rfl, rfl, rfl, rfl, rfl, rfl, trivial⟩, ?_⟩
              all_goals first | exact hs | exact las_ext hs | exact las_self | skip
              all_goals first | exact List.Sublist.refl _ | exact List.Sublist.cons _ (List.Sublist.refl _) | exact List.Sublist.cons _ (List.Sublist.cons _ (List.Sublist.refl _)) | skip
              all_goals (simp only [List.length_append, decide_eq_true_eq, decide_eq_false_iff_not, Bool.cond_false_right, Bool.and_eq_true] at *; omega)
    · refine CW.exit (Q.te (Q.te (Q.bx (Q.tn ?_))))
      refine CW.seq ?_
      refine CW.region ?_
      refine W.q (QV.q (O.mv ⟨rfl, rfl⟩ (vt rfl))) ?_
      refine W.q (QV.q (O.andM 10 1024 ⟨rfl, rfl⟩ (vt rfl) (vt rfl) (by decide) (by decide) (by decide))) ?_
      refine W.q (QV.q (O.as ⟨rfl, rfl⟩ (vt rfl))) ?_
      refine WL.nil (Q.tn ?_)
      refine CW.seq ?_
      refine CW.region ?_
      refine W.q (QV.q (O.lds ⟨rfl, rfl⟩ (vt rfl))) ?_
      refine W.q (QV.q (O.mv ⟨rfl, rfl⟩ (vt rfl))) ?_
      refine W.q (O.call ⟨rfl, rfl⟩ (AV.cons (vt rfl) (AV.cons (vt rfl) (AV.nil))) (fun _ w hw => x_Crash _ _ _ _ _ _ w (by first | exact Nat.le_trans (Dk.turned_len _ _ _).1 (by decide) | exact Nat.le_trans (Dk.turned_len _ _ _).2 (by decide) | assumption | decide | (simp [top]; done) | omega) (by first | exact Nat.le_trans (Dk.turned_len _ _ _).1 (by decide) | exact Nat.le_trans (Dk.turned_len _ _ _).2 (by decide) | assumption | decide | (simp [top]; done) | omega))) ?_
      refine W.q (QV.q (O.mv ⟨rfl, rfl⟩ (vt rfl))) ?_
      refine W.q (QV.q (O.ext ⟨rfl, rfl⟩ (vt rfl) rfl)) ?_
      refine W.q (QV.q (O.ext ⟨rfl, rfl⟩ (vt rfl) rfl)) ?_
      refine W.al rfl rfl fun b6 => ?_
      refine W.st (vt rfl) (vt rfl) rfl ?_
      refine W.q (QV.q (O.as ⟨rfl, rfl⟩ (vt rfl))) ?_
      refine WL.nil (Q.tn ?_)
      refine CW.seq ?_
      refine CW.region ?_
      refine W.q (QV.q (O.lds ⟨rfl, rfl⟩ (vt rfl))) ?_
      refine W.q (O.call ⟨rfl, rfl⟩ (AV.cons (vt rfl) (AV.cons (vt rfl) (AV.nil))) (fun _ w hw => x_Begin _ _ _ _ _ _ w (by first | exact Nat.le_trans (Dk.turned_len _ _ _).1 (by decide) | exact Nat.le_trans (Dk.turned_len _ _ _).2 (by decide) | assumption | decide | (simp [top]; done) | omega) (by first | exact Nat.le_trans (Dk.turned_len _ _ _).1 (by decide) | exact Nat.le_trans (Dk.turned_len _ _ _).2 (by decide) | assumption | decide | (simp [top]; done) | omega) (by first | exact Nat.le_trans (Dk.turned_len _ _ _).1 (by decide) | exact Nat.le_trans (Dk.turned_len _ _ _).2 (by decide) | assumption | decide | (simp [top]; done) | omega))) ?_
      refine W.q (QV.q (O.mv ⟨rfl, rfl⟩ (vt rfl))) ?_
      refine W.q (QV.q (O.ext ⟨rfl, rfl⟩ (vt rfl) rfl)) ?_
      refine W.q (QV.q (O.ext ⟨rfl, rfl⟩ (vt rfl) rfl)) ?_
      refine W.al rfl rfl fun b7 => ?_
      refine W.st (vt rfl) (vt rfl) rfl ?_
      refine W.q (QV.q (O.as ⟨rfl, rfl⟩ (vt rfl))) ?_
      refine WL.nil (Q.tn ?_)
      refine CW.seq ?_
      refine CW.seq ?_
      refine CW.region ?_
      refine W.q (QV.q (O.mv ⟨rfl, rfl⟩ (vt rfl))) ?_
      refine W.q (O.call ⟨rfl, rfl⟩ (AV.cons (vt rfl) (AV.nil)) (fun _ w hw => law0_Num _ w)) ?_
      refine W.q (QV.q (O.eqI ⟨rfl, rfl⟩ (vt rfl) (vt rfl))) ?_
      refine WL.nil (Q.tn ?_)
      refine CW.cond (vt rfl) (fun hc10 => ?_) (fun hc10 => ?_)
      · refine CW.seq ?_
        refine CW.region ?_
        refine W.q (QV.q (O.lds ⟨rfl, rfl⟩ (vt rfl))) ?_
        refine W.q (QV.q (O.mv ⟨rfl, rfl⟩ (vt rfl))) ?_
        refine W.q (O.call ⟨rfl, rfl⟩ (AV.cons (vt rfl) (AV.cons (vt rfl) (AV.nil))) (fun _ w hw => x_Crash _ _ _ _ _ _ w (by first | exact Nat.le_trans (Dk.turned_len _ _ _).1 (by decide) | exact Nat.le_trans (Dk.turned_len _ _ _).2 (by decide) | assumption | decide | (simp [top]; done) | omega) (by first | exact Nat.le_trans (Dk.turned_len _ _ _).1 (by decide) | exact Nat.le_trans (Dk.turned_len _ _ _).2 (by decide) | assumption | decide | (simp [top]; done) | omega))) ?_
        refine W.q (QV.q (O.mv ⟨rfl, rfl⟩ (vt rfl))) ?_
        refine W.q (QV.q (O.ext ⟨rfl, rfl⟩ (vt rfl) rfl)) ?_
        refine W.q (QV.q (O.ext ⟨rfl, rfl⟩ (vt rfl) rfl)) ?_
        refine W.al rfl rfl fun b8 => ?_
        refine W.st (vt rfl) (vt rfl) rfl ?_
        refine W.q (QV.q (O.as ⟨rfl, rfl⟩ (vt rfl))) ?_
        refine WL.nil (Q.tn ?_)
        refine CW.seq ?_
        refine CW.region ?_
        refine W.q (QV.q (O.mv ⟨rfl, rfl⟩ (vt rfl))) ?_
        refine W.q (O.call ⟨rfl, rfl⟩ (AV.cons (vt rfl) (AV.nil)) (fun _ w hw => law0_Num _ w)) ?_
        refine W.q (QV.q (O.neI ⟨rfl, rfl⟩ (vt rfl) (vt rfl))) ?_
        refine W.q (QV.q (O.mv ⟨rfl, rfl⟩ (vt rfl))) ?_
        refine W.q (QV.q (O.lds ⟨rfl, rfl⟩ (vt rfl))) ?_
        refine W.q (QV.q (O.lds ⟨rfl, rfl⟩ (vt rfl))) ?_
        refine W.q (QV.q (O.neT ⟨rfl, rfl⟩ (vs rfl) (vs rfl) rfl)) ?_
        refine W.q (QV.q (O.pkB ⟨rfl, rfl⟩ (vt rfl) (vt rfl) (vs rfl))) ?_
        refine WL.nil (Q.tn ?_)
        refine CW.cond (vt rfl) (fun hc11 => ?_) (fun hc11 => ?_)
        · refine CW.seq ?_
          refine CW.region ?_
          refine W.q (QV.q (O.as ⟨rfl, rfl⟩ (vt rfl))) ?_
          refine WL.nil (Q.tn ?_)
          refine CW.ret (Q.tr ?_)
          refine ⟨_, [], (RVs.tmp rfl RVs.nil), List.nil_sublist _, ?_⟩
          refine ⟨congrArg Value.bool ?_, rfl⟩
          first | (exfalso; cases hc1; done) | skip
          all_goals first | (exfalso; simp only [decide_true, Bool.not_true, Bool.false_eq_true] at *; done) | skip
          all_goals have hk : 0 ≤ keep % 1024 := by omega
          all_goals have f3 := las_cut (nxt := []) (kep := 0) (bes := false) hk hs (.inr ⟨rfl, rfl⟩) (by simp; omega) (by omega) (by simp) hsl
          all_goals by_cases hb : log.length + [98, 101, 115, 105, 100, (101 : UInt8)].length ≤ 2048
          all_goals first | have f1 := las_beg hb hsl | have f1 := las_begNo hl hb hsl
          all_goals first | (have f2 := las_cut (kep := 0) (bes := true) hk hs (.inl rfl) hb (by omega) (by simp) hsl) | skip
          all_goals first | (exfalso; simp [f1, f2, f3] at hc10 hc11; done) | (exfalso; simp [f1] at hc10; done) | (simp [f1, f2, f3]; done) | (simp [f1, f3]; done)
        · refine CW.skip (Q.tn ?_)
          refine CW.seq ?_
          refine CW.region ?_
          refine W.q (QV.q (O.mv ⟨rfl, rfl⟩ (vt rfl))) ?_
          refine W.q (QV.q (O.mv ⟨rfl, rfl⟩ (vt rfl))) ?_
          refine W.q (QV.q (O.mv ⟨rfl, rfl⟩ (vt rfl))) ?_
          refine W.q (QV.q (O.len ⟨rfl, rfl⟩ (vt rfl))) ?_
          refine W.q (QV.q (O.mv ⟨rfl, rfl⟩ (vt rfl))) ?_
          refine W.q (QV.q (O.len ⟨rfl, rfl⟩ (vt rfl))) ?_
          refine W.q (QV.q (O.mv ⟨rfl, rfl⟩ (vt rfl))) ?_
          refine W.q (QV.q (O.len ⟨rfl, rfl⟩ (vt rfl))) ?_
          refine W.q (QV.q (O.mv ⟨rfl, rfl⟩ (vt rfl))) ?_
          first | refine W.q (QV.q (O.addN ⟨rfl, rfl⟩ (vt rfl) (vt rfl) (fun _ => by omega))) ?_ | refine W.q (QV.q (O.add ⟨rfl, rfl⟩ (vt rfl) (vt rfl))) ?_
          refine W.q (QV.q (O.min ⟨rfl, rfl⟩ (vt rfl) (vt rfl))) ?_
          refine W.q (QV.q (O.slc ⟨rfl, rfl⟩ (vt rfl) (vt rfl) (vt rfl) (fun hg => by first | omega | (simp only [cond_true, cond_false, Bool.true_and, Bool.cond_false_right, Bool.cond_true_left, Bool.and_eq_true, Bool.or_eq_true, decide_eq_true_eq] at hg; omega)))) ?_
          refine W.q (QV.q (O.addS ⟨rfl, rfl⟩ (vt rfl) (vt rfl) (fun _ => by first | omega | (simp; omega)))) ?_
          refine W.q (QV.q (O.as ⟨rfl, rfl⟩ (vt rfl))) ?_
          refine WL.nil (Q.tn ?_)
          refine CW.seq ?_
          refine CW.region ?_
          refine W.q (QV.q (O.mv ⟨rfl, rfl⟩ (vt rfl))) ?_
          refine W.q (O.call ⟨rfl, rfl⟩ (AV.cons (vt rfl) (AV.nil)) (fun _ w hw => law0_Num _ w)) ?_
          refine W.q (QV.q (O.eqI ⟨rfl, rfl⟩ (vt rfl) (vt rfl))) ?_
          refine W.q (QV.q (O.mv ⟨rfl, rfl⟩ (vt rfl))) ?_
          first | refine W.q (QV.q (O.fb ⟨rfl, rfl⟩ (vt rfl))) ?_ | refine W.q (QV.q (O.fa ⟨rfl, rfl⟩ (vt rfl))) ?_
          refine W.q (QV.q (O.ld ⟨rfl, rfl⟩ (vs rfl))) ?_
          refine W.q (QV.q (O.mv ⟨rfl, rfl⟩ (vt rfl))) ?_
          refine W.q (QV.q (O.eqS ⟨rfl, rfl⟩ (vs rfl) (vs rfl))) ?_
          refine W.q (QV.q (O.pkB ⟨rfl, rfl⟩ (vt rfl) (vs rfl) (vt rfl))) ?_
          refine W.q (QV.q (O.mv ⟨rfl, rfl⟩ (vt rfl))) ?_
          refine W.q (QV.q (O.lds ⟨rfl, rfl⟩ (vt rfl))) ?_
          refine W.q (QV.q (O.mv ⟨rfl, rfl⟩ (vt rfl))) ?_
          refine W.q (QV.q (O.mv ⟨rfl, rfl⟩ (vt rfl))) ?_
          refine W.q (QV.q (O.len ⟨rfl, rfl⟩ (vs rfl))) ?_
          refine W.q (QV.q (O.bd ⟨rfl, rfl⟩ (PV.cons (vs rfl) (PV.cons (vs rfl) (PV.nil))))) ?_
          refine W.q (QV.q (O.eqT ⟨rfl, rfl⟩ (vs rfl) (vs rfl) rfl)) ?_
          refine W.q (QV.q (O.pkB ⟨rfl, rfl⟩ (vt rfl) (vs rfl) (vt rfl))) ?_
          refine W.q (QV.q (O.as ⟨rfl, rfl⟩ (vt rfl))) ?_
          refine WL.nil (Q.tn ?_)
          refine CW.ret ?_
          refine ⟨_, [], (RVs.tmp rfl RVs.nil), List.nil_sublist _, ?_⟩
          refine ⟨congrArg Value.bool ?_, rfl⟩
          first | (exfalso; cases hc1; done) | skip
          all_goals first | (exfalso; simp only [decide_true, Bool.not_true, Bool.false_eq_true] at *; done) | skip
          all_goals have hk : 0 ≤ keep % 1024 := by omega
          all_goals have f3 := las_cut (nxt := []) (kep := 0) (bes := false) hk hs (.inr ⟨rfl, rfl⟩) (by simp; omega) (by omega) (by simp) hsl
          all_goals by_cases hb : log.length + [98, 101, 115, 105, 100, (101 : UInt8)].length ≤ 2048
          all_goals first | have f1 := las_beg hb hsl | have f1 := las_begNo hl hb hsl
          all_goals first | (have f2 := las_cut (kep := 0) (bes := true) hk hs (.inl rfl) hb (by omega) (by simp) hsl) | skip
          all_goals first | (exfalso; simp [f1, f2, f3] at hc10 hc11; done) | (exfalso; simp [f1] at hc10; done) | (simp [f1, f2, f3]; done) | (simp [f1, f3]; done)
      · refine CW.skip (Q.tn ?_)
        refine CW.seq ?_
        refine CW.region ?_
        refine W.q (QV.q (O.mv ⟨rfl, rfl⟩ (vt rfl))) ?_
        refine W.q (QV.q (O.mv ⟨rfl, rfl⟩ (vt rfl))) ?_
        refine W.q (QV.q (O.mv ⟨rfl, rfl⟩ (vt rfl))) ?_
        refine W.q (QV.q (O.len ⟨rfl, rfl⟩ (vt rfl))) ?_
        refine W.q (QV.q (O.mv ⟨rfl, rfl⟩ (vt rfl))) ?_
        refine W.q (QV.q (O.len ⟨rfl, rfl⟩ (vt rfl))) ?_
        refine W.q (QV.q (O.mv ⟨rfl, rfl⟩ (vt rfl))) ?_
        refine W.q (QV.q (O.len ⟨rfl, rfl⟩ (vt rfl))) ?_
        refine W.q (QV.q (O.mv ⟨rfl, rfl⟩ (vt rfl))) ?_
        first | refine W.q (QV.q (O.addN ⟨rfl, rfl⟩ (vt rfl) (vt rfl) (fun _ => by omega))) ?_ | refine W.q (QV.q (O.add ⟨rfl, rfl⟩ (vt rfl) (vt rfl))) ?_
        refine W.q (QV.q (O.min ⟨rfl, rfl⟩ (vt rfl) (vt rfl))) ?_
        refine W.q (QV.q (O.slc ⟨rfl, rfl⟩ (vt rfl) (vt rfl) (vt rfl) (fun hg => by first | omega | (simp only [cond_true, cond_false, Bool.true_and, Bool.cond_false_right, Bool.cond_true_left, Bool.and_eq_true, Bool.or_eq_true, decide_eq_true_eq] at hg; omega)))) ?_
        refine W.q (QV.q (O.addS ⟨rfl, rfl⟩ (vt rfl) (vt rfl) (fun _ => by first | omega | (simp; omega)))) ?_
        refine W.q (QV.q (O.as ⟨rfl, rfl⟩ (vt rfl))) ?_
        refine WL.nil (Q.tn ?_)
        refine CW.seq ?_
        refine CW.region ?_
        refine W.q (QV.q (O.mv ⟨rfl, rfl⟩ (vt rfl))) ?_
        refine W.q (O.call ⟨rfl, rfl⟩ (AV.cons (vt rfl) (AV.nil)) (fun _ w hw => law0_Num _ w)) ?_
        refine W.q (QV.q (O.eqI ⟨rfl, rfl⟩ (vt rfl) (vt rfl))) ?_
        refine W.q (QV.q (O.mv ⟨rfl, rfl⟩ (vt rfl))) ?_
        first | refine W.q (QV.q (O.fb ⟨rfl, rfl⟩ (vt rfl))) ?_ | refine W.q (QV.q (O.fa ⟨rfl, rfl⟩ (vt rfl))) ?_
        refine W.q (QV.q (O.ld ⟨rfl, rfl⟩ (vs rfl))) ?_
        refine W.q (QV.q (O.mv ⟨rfl, rfl⟩ (vt rfl))) ?_
        refine W.q (QV.q (O.eqS ⟨rfl, rfl⟩ (vs rfl) (vs rfl))) ?_
        refine W.q (QV.q (O.pkB ⟨rfl, rfl⟩ (vt rfl) (vs rfl) (vt rfl))) ?_
        refine W.q (QV.q (O.mv ⟨rfl, rfl⟩ (vt rfl))) ?_
        refine W.q (QV.q (O.lds ⟨rfl, rfl⟩ (vt rfl))) ?_
        refine W.q (QV.q (O.mv ⟨rfl, rfl⟩ (vt rfl))) ?_
        refine W.q (QV.q (O.mv ⟨rfl, rfl⟩ (vt rfl))) ?_
        refine W.q (QV.q (O.len ⟨rfl, rfl⟩ (vs rfl))) ?_
        refine W.q (QV.q (O.bd ⟨rfl, rfl⟩ (PV.cons (vs rfl) (PV.cons (vs rfl) (PV.nil))))) ?_
        refine W.q (QV.q (O.eqT ⟨rfl, rfl⟩ (vs rfl) (vs rfl) rfl)) ?_
        refine W.q (QV.q (O.pkB ⟨rfl, rfl⟩ (vt rfl) (vs rfl) (vt rfl))) ?_
        refine W.q (QV.q (O.as ⟨rfl, rfl⟩ (vt rfl))) ?_
        refine WL.nil (Q.tn ?_)
        refine CW.ret ?_
        refine ⟨_, [], (RVs.tmp rfl RVs.nil), List.nil_sublist _, ?_⟩
        refine ⟨congrArg Value.bool ?_, rfl⟩
        first | (exfalso; cases hc1; done) | skip
        all_goals first | (exfalso; simp only [decide_true, Bool.not_true, Bool.false_eq_true] at *; done) | skip
        all_goals have hk : 0 ≤ keep % 1024 := by omega
        all_goals have f3 := las_cut (nxt := []) (kep := 0) (bes := false) hk hs (.inr ⟨rfl, rfl⟩) (by simp; omega) (by omega) (by simp) hsl
        all_goals by_cases hb : log.length + [98, 101, 115, 105, 100, (101 : UInt8)].length ≤ 2048
        all_goals first | have f1 := las_beg hb hsl | have f1 := las_begNo hl hb hsl
        all_goals first | (have f2 := las_cut (kep := 0) (bes := true) hk hs (.inl rfl) hb (by omega) (by simp) hsl) | skip
        all_goals first | (exfalso; simp [f1, f2, f3] at hc10 hc11; done) | (exfalso; simp [f1] at hc10; done) | (simp [f1, f2, f3]; done) | (simp [f1, f3]; done)
end Go.Proofs.Ytmhjcmpokjhhcaa
