/- What script.read comes to. Conditions: the text is not longer than a million; the library's table of powers of ten is as its text lays it, its two variables for errors hold errors. -/
import Derived.Test.YtagiajnpnjakhaaDoorScB
import Derived.Test.YtagiajnpnjakhaaDoorAto
import Derived.Test.YtagiajnpnjakhaaDoorZnB
set_option linter.unusedVariables false
set_option linter.unusedSimpArgs false
namespace Go.Proofs.YtagiajnpnjakhaaDoor
open Go Go.RowKit
abbrev encP : Addr → List Value := fun p => [.pointer (some p)]
abbrev dP : Addr := ⟨0, 0, none⟩
instance : Enc encP 1 dP := ⟨fun _ => rfl, by decide⟩
theorem nums4_some {l : List (List UInt8)} {xs : List Int} (hl : l.length = 4) (h : ∀ j : Nat, j < 4 → Lib.atoiAll (l.getD j []) = .ok (xs.getD j 0)) : nums4 l = some (xs.getD 0 0, xs.getD 1 0, xs.getD 2 0, xs.getD 3 0) := by
  rcases l with _ | ⟨a, _ | ⟨b, _ | ⟨c, _ | ⟨d, _ | ⟨e, r⟩⟩⟩⟩⟩ <;> simp at hl
  have h0 := h 0 (by omega); have h1 := h 1 (by omega); have h2 := h 2 (by omega); have h3 := h 3 (by omega)
  simp only [List.getD_cons_zero, List.getD_cons_succ] at h0 h1 h2 h3
  simp only [nums4, h0, h1, h2, h3]
theorem nums4_none {l : List (List UInt8)} {j : Nat} (hl : l.length = 4) (hj : j < 4) (h : ∀ y, Lib.atoiAll (l.getD j []) ≠ .ok y) : nums4 l = none := by
  rcases l with _ | ⟨a, _ | ⟨b, _ | ⟨c, _ | ⟨d, _ | ⟨e, r⟩⟩⟩⟩⟩ <;> simp at hl
  dsimp only [nums4]
  split
  · rename_i x y z u h0 h1 h2 h3
    rcases (show j = 0 ∨ j = 1 ∨ j = 2 ∨ j = 3 by omega) with rfl | rfl | rfl | rfl
    · exact absurd h0 (h x)
    · exact absurd h1 (h y)
    · exact absurd h2 (h z)
    · exact absurd h3 (h u)
  · rfl
theorem nums4_len {l : List (List UInt8)} (hl : l.length ≠ 4) : nums4 l = none := by
  rcases l with _ | ⟨a, _ | ⟨b, _ | ⟨c, _ | ⟨d, _ | ⟨e, r⟩⟩⟩⟩⟩ <;> first | rfl | (simp at hl)
theorem atoi_rng {l : List UInt8} {x : Int} (h : Lib.atoiAll l = .ok x) : -9223372036854775808 ≤ x ∧ x ≤ 9223372036854775807 := by
  have := Lib.atoiAll_bounds h; omega
/-- the four places that numbers are read into -/
abbrev fourP (b2 b3 : Nat) : List Addr := [⟨b2, 2, none⟩, ⟨b2, 3, none⟩, ⟨b2, 4, none⟩, ⟨b3, 0, none⟩]
abbrev fourH (b2 b3 b4 : Nat) (k : Int) (t : List UInt8) (xs : List Int) (H : Heap) : Heap := (b4, .cells (flat encP (fourP b2 b3) []).toArray 131 (0, 0)) :: (b3, .cells #[.int .i64 (xs.getD 3 0)] 3 (0, 0)) :: (b2, .cells #[.int .i64 k, .string (S t), .int .i64 (xs.getD 0 0), .int .i64 (xs.getD 1 0), .int .i64 (xs.getD 2 0)] 73 (0, 0)) :: H
section
variable {P : Program} {d n : Nat} {w0 w : World} {L0 L L' : Heap} {all rest : List Oper} {E : Env} {Q : Post} {x y : Operand} {T ty : TypeId} {pos : String} {aft : Array Edge}
theorem W.st4 {b2 b3 b4 : Nat} {k : Int} {t : List UInt8} {xs : List Int} {H : Heap} {i v : Int} (hx : Val true E x (.pointer (some ((fourP b2 b3).getD i.toNat dP)))) (hy : Val true E y (.int .i64 v)) (h0 : 0 ≤ i) (h4 : i < 4) (hl : xs.length = 4) [ht : TSize P T 1]
    (kk : WL P n w0 L0 all rest E (fourH b2 b3 b4 k t (xs.set i.toNat v) H) Q) : WL P n w0 L0 all (⟨none, .store T x y, ty, pos, aft, none⟩ :: rest) E (fourH b2 b3 b4 k t xs H) Q := by
  rcases xs with _ | ⟨x0, _ | ⟨x1, _ | ⟨x2, _ | ⟨x3, _ | ⟨x4, r⟩⟩⟩⟩⟩ <;> simp at hl
  rcases (show i = 0 ∨ i = 1 ∨ i = 2 ∨ i = 3 by omega) with rfl | rfl | rfl | rfl
  · exact W.st (b := b2) (o := 2) hx hy rfl kk
  · exact W.st (b := b2) (o := 3) hx hy rfl kk
  · exact W.st (b := b2) (o := 4) hx hy rfl kk
  · exact W.st (b := b3) (o := 0) hx hy rfl kk
end
theorem spl_sum (q : UInt8) : ∀ s : List UInt8, (spl q s).flatten.length ≤ s.length
  | [] => by simp [spl]
  | c :: r => by
    have ih := spl_sum q r
    simp only [spl]
    split
    · simp at ih ⊢; omega
    · split
      · simp
      · rename_i e; rw [e] at ih; simp at ih ⊢; omega
theorem cut_len2 (q : UInt8) (s : List UInt8) : (cutB q s).1.length ≤ s.length ∧ (cutB q s).2.1.length ≤ s.length := by
  unfold cutB; split <;> simp <;> omega
theorem read_none {s : List UInt8} (h : (if (cutB 58 (s.drop 1)).2.2 = true then nums4 (spl 44 (cutB 58 (s.drop 1)).1) else none) = none) : readP s = (dAc, [], false) := by
  unfold readP; dsimp only; rw [h]
theorem read_size {s : List UInt8} {x y z u : Int} (h1 : (cutB 58 (s.drop 1)).2.2 = true) (h : nums4 (spl 44 (cutB 58 (s.drop 1)).1) = some (x, y, z, u)) (hu : u < 0 ∨ (cutB 58 (s.drop 1)).2.1.length < u) : readP s = (dAc, [], false) := by
  unfold readP; dsimp only; rw [if_pos h1, h]; dsimp only; rw [if_pos hu]
theorem read_yes {s : List UInt8} {x y z u : Int} (h1 : (cutB 58 (s.drop 1)).2.2 = true) (h : nums4 (spl 44 (cutB 58 (s.drop 1)).1) = some (x, y, z, u)) (hu : ¬(u < 0 ∨ (cutB 58 (s.drop 1)).2.1.length < u)) : readP s = (⟨kindA (s.take 1), (cutB 58 (s.drop 1)).2.1.take u.toNat, x, y, z⟩, (cutB 58 (s.drop 1)).2.1.drop u.toNat, decide (acT ⟨kindA (s.take 1), (cutB 58 (s.drop 1)).2.1.take u.toNat, x, y, z⟩ ++ (cutB 58 (s.drop 1)).2.1.drop u.toNat = s)) := by
  unfold readP; dsimp only; rw [if_pos h1, h]; dsimp only; rw [if_neg hu]
theorem acT_le {a : Ac} (hb : -9223372036854775808 ≤ a.by_ ∧ a.by_ ≤ 9223372036854775807) (hc : -9223372036854775808 ≤ a.cut ∧ a.cut ≤ 9223372036854775807) (hk : -9223372036854775808 ≤ a.keep ∧ a.keep ≤ 9223372036854775807) (hl : a.text.length ≤ 1048576) : (acT a).length ≤ 100 + a.text.length := by
  have l1 := itoa_len hb.1 hb.2; have l2 := itoa_len hc.1 hc.2; have l3 := itoa_len hk.1 hk.2; have l4 := itoa_len (x := (a.text.length : Int)) (by omega) (by omega)
  have lk := lett_len a.kind
  simp only [acT, acH, List.length_append, List.length_cons]; omega
set_option maxRecDepth 100000 in
theorem sc_read (s : List UInt8) (w : World) (hs : 1 ≤ s.length) (hn : s.length ≤ 1048576) (ht : Tab10 w) (he : ErrV w) : Fn Tryd.prog 68 [.string (S s)] w [] fun v L' => v = .tuple #[vA (readP s).1, .string (S (readP s).2.1), .bool (readP s).2.2] ∧ L' = [] := by
  have hcl := cut_len2 58 (s.drop 1)
  rw [List.length_drop] at hcl
  have hss := spl_sum 44 (cutB 58 (s.drop 1)).1
  refine Fn.enter Tryd.func68 rfl rfl rfl rfl (Holds.nil w) ?_
  refine CW.seq ?_
  refine CW.region ?_
  refine W.al rfl rfl fun b1 => ?_
  refine W.p O.as ?_
  refine W.p O.as ?_
  refine WL.nil (Q.tn ?_)
  refine CW.seq ?_
  refine CW.region ?_
  refine W.p O.mv ?_
  refine W.p O.slcL ?_
  refine W.q (O.call ⟨rfl, rfl⟩ (AV.cons (vt rfl) (AV.cons (vt rfl) (AV.nil))) (fun _ w hw => st_Cut1 (s.drop 1) 58 w (by rw [List.length_drop]; omega))) ?_
  refine W.p O.mv ?_
  first | refine W.p O.extL ?_ | refine W.p O.ext ?_
  first | refine W.p O.extL ?_ | refine W.p O.ext ?_
  first | refine W.p O.extL ?_ | refine W.p O.ext ?_
  refine W.p O.as ?_
  refine W.p O.as ?_
  refine W.p O.as ?_
  refine WL.nil (Q.tn ?_)
  refine CW.seq ?_
  refine CW.region ?_
  refine W.p O.mv ?_
  refine W.callN (first := []) (cap := []) rfl (vt rfl) (AV.cons (vt rfl) (AV.cons (vt rfl) (AV.nil))) (fun w hu => st_Split (cutB 58 (s.drop 1)).1 44 w (by omega)) ?_; rintro _ _ ⟨o9, c9, sp9, rfl, ok9, rfl⟩; have nk9 := ok9.nk
  refine W.p O.as ?_
  refine WL.nil (Q.tn ?_)
  refine CW.seq ?_
  refine CW.region ?_
  refine W.p O.mv ?_
  refine W.p O.slcH ?_
  refine W.q (O.call ⟨rfl, rfl⟩ (AV.cons (vt rfl) (AV.nil)) (fun _ w hw => sc_kinds (s.take 1) w (List.length_take_le _ _))) ?_
  refine W.p (O.bd (hv := PV.cons (vt rfl) (PV.nil))) ?_
  refine W.al rfl rfl fun b2 => ?_
  refine W.st (vt rfl) (vt rfl) rfl ?_
  refine WL.nil (Q.tn ?_)
  refine CW.seq ?_
  refine CW.region ?_
  refine W.al rfl rfl fun b3 => ?_
  first | refine W.st (vt rfl) (vt rfl) rfl ?_ | refine W.st (u := .int _ _) (vt rfl) (vt rfl) rfl ?_
  refine WL.nil (Q.tn ?_)
  refine CW.seq ?_
  refine CW.region ?_
  first | refine W.p O.fb ?_ | refine W.p O.fa ?_
  first | refine W.p O.fb ?_ | refine W.p O.fa ?_
  first | refine W.p O.fb ?_ | refine W.p O.fa ?_
  refine W.bs encP (fourP b2 b3) rfl (PV.cons (vt rfl) (PV.cons (vt rfl) (PV.cons (vt rfl) (PV.cons (vt rfl) (PV.nil))))) rfl rfl rfl (by decide) rfl fun b4 => ?_
  refine W.p O.as ?_
  refine WL.nil (Q.tn ?_)
  refine CW.seq ?_
  refine CW.seq ?_
  refine CW.region ?_
  refine W.p O.mv ?_
  refine W.p O.nt ?_
  refine W.p O.mv ?_
  refine W.p O.mv ?_
  refine W.p O.lenL ?_
  refine W.p O.mv ?_
  refine W.p O.lenL ?_
  refine W.p O.neI ?_
  refine W.p O.pkB ?_
  refine WL.nil (Q.tn ?_)
  refine CW.cond (vt rfl) (fun hc1 => ?_) (fun hc1 => ?_)
  · try simp only [sk] at hc1
    refine CW.seq ?_
    refine CW.region ?_
    refine W.p (O.bd (hv := PV.nil)) ?_
    refine W.st (vt rfl) (vt rfl) rfl ?_
    refine W.p O.as ?_
    refine W.p O.as ?_
    refine WL.nil (Q.tn ?_)
    refine CW.ret (Q.tr ?_)
    refine ⟨_, [], (RVs.cell rfl (RVs.tmp rfl (RVs.tmp rfl RVs.nil))), List.nil_sublist _, ?_⟩
    refine ⟨?_, rfl⟩
    rw [read_none (by rcases hc1 with h | h; (rw [h]; rfl); (split; (exact nums4_len (by omega)); rfl))]; rfl
  try simp only [sk] at hc1
  have h4 : (spl 44 (cutB 58 (s.drop 1)).1).length = 4 := by have := hc1.2; omega
  refine CW.skip (Q.tn ?_)
  refine CW.seq ?_
  refine CW.seq ?_
  refine CW.region ?_
  refine W.p O.mv ?_
  refine W.p O.lenL ?_
  refine W.p O.mv ?_
  refine WL.nil (Q.tn ?_)
  refine CW.block ?_
  refine CW.loopA (X := Int × (List Int)) (fun ⟨i, xs⟩ => [(0, true, .string (S s)), (2, true, .pointer (some ⟨b1, 0, none⟩)), (6, true, .string (S (cutB 58 (s.drop 1)).2.1)), (9, true, .pointer (some ⟨b2, 0, none⟩)), (10, true, .pointer (some ⟨b3, 0, none⟩)), (11, true, .slice (oa (some b4)) 4 4), (43, true, .slice (oa o9) (spl 44 (cutB 58 (s.drop 1)).1).length c9), (44, true, .int .i64 (spl 44 (cutB 58 (s.drop 1)).1).length), (45, true, .int .i64 i)]) (fun ⟨i, xs⟩ => fourH b2 b3 b4 (kindA (s.take 1)) [] xs (rowL o9 9 (flat encS (spl 44 (cutB 58 (s.drop 1)).1) sp9) ++ [(b1, .cells (encA dA).toArray 73 (0, 0))])) (fun ⟨i, xs⟩ => 0 ≤ i ∧ i ≤ 4 ∧ xs.length = 4 ∧ ∀ j : Nat, (j : Int) < i → Lib.atoiAll ((spl 44 (cutB 58 (s.drop 1)).1).getD j []) = .ok (xs.getD j 0)) (fun ⟨i, xs⟩ => (4 - i).toNat) (0, [0, 0, 0, 0]) ?_ ?_
  · exact ⟨by omega, by omega, rfl, fun j h => absurd h (by omega)⟩
  rintro ⟨i, xs⟩ hI
  try dsimp only at hI ⊢
  obtain ⟨h0, h1, hxl, hok⟩ := hI
  have hfg := flat_getD (spl 44 (cutB 58 (s.drop 1)).1) i.toNat
  refine CW.seq ?_
  refine CW.region ?_
  refine W.p O.lss ?_
  refine WL.nil (Q.tn ?_)
  refine CW.seq ?_
  refine CW.cond (vt rfl) (fun hc2 => ?_) (fun hc2 => ?_)
  · try simp only [sk] at hc2
    refine CW.skip (Q.tn ?_)
    refine CW.seq ?_
    refine CW.block ?_
    refine CW.seq ?_
    refine CW.region ?_
    refine W.p O.mv ?_
    refine W.p O.ixA ?_
    refine W.p O.ldE ?_
    refine W.p O.as ?_
    refine W.p O.as ?_
    refine WL.nil (Q.tn ?_)
    refine CW.seq ?_
    refine CW.region ?_
    refine W.p O.mv ?_
    refine W.callN (first := []) (cap := []) rfl (vt rfl) (AV.cons (vt rfl) (AV.nil)) (fun w hu => at_Atoi ((spl 44 (cutB 58 (s.drop 1)).1).getD i.toNat []) w (by omega) (he.upd hu)) ?_; rintro _ _ ⟨⟨x, e, b, rfl, hif, hat⟩, rfl⟩
    refine W.p O.mv ?_
    first | refine W.p O.extL ?_ | refine W.p O.ext ?_
    first | refine W.p O.extL ?_ | refine W.p O.ext ?_
    refine W.p O.as ?_
    refine W.p O.as ?_
    refine WL.nil (Q.tn ?_)
    refine CW.seq ?_
    refine CW.seq ?_
    refine CW.region ?_
    refine W.p O.mv ?_
    refine W.p (O.neF ⟨_, Tryd.underlying122⟩ (by assumption)) ?_
    refine WL.nil (Q.tn ?_)
    refine CW.cond (vt rfl) (fun hc3 => ?_) (fun hc3 => ?_)
    · try simp only [sk] at hc3
      refine CW.seq ?_
      refine CW.region ?_
      refine W.p (O.bd (hv := PV.nil)) ?_
      refine W.st (vt rfl) (vt rfl) rfl ?_
      refine W.p O.as ?_
      refine W.p O.as ?_
      refine WL.nil (Q.tn ?_)
      refine CW.ret (Q.tr (Q.br (Q.tr (Q.tr (Q.br (Q.tr ?_))))))
      refine ⟨_, [], (RVs.cell rfl (RVs.tmp rfl (RVs.tmp rfl RVs.nil))), List.nil_sublist _, ?_⟩
      refine ⟨?_, rfl⟩
      rw [read_none (by rw [if_pos hc1.1]; exact nums4_none h4 (j := i.toNat) (by omega) (hat.2 hc3))]; rfl
    try simp only [sk] at hc3
    refine CW.skip (Q.tn ?_)
    refine CW.region ?_
    refine W.p O.mv ?_
    refine W.p O.mv ?_
    refine W.p O.ixA ?_
    refine W.p O.ldE ?_
    refine W.p O.mv ?_
    refine W.p O.nc ?_
    refine W.st4 (vt rfl) (vt rfl) h0 (by omega) hxl ?_
    refine WL.nil (Q.bn (Q.tn ?_))
    refine CW.region ?_
    first | refine W.p O.addN ?_ | refine W.p O.add ?_
    refine W.p O.mv ?_
    refine WL.nil (Q.tn ?_)
    refine nextA (_, xs.set i.toNat x) ?_ ?_
    · try dsimp only
      refine ⟨by omega, by omega, by simpa using hxl, fun j hj => ?_⟩
      by_cases e : (j : Int) = i
      · subst e; have ha := hat.1 hc3; rw [Int.toNat_natCast] at ha ⊢; rw [ha, List.getD_eq_getElem?_getD, List.getElem?_set_self (by omega)]; rfl
      · rw [hok j (by omega)]; congr 1; simp only [List.getD_eq_getElem?_getD]; rw [List.getElem?_set_ne (by omega)]
    · try dsimp only
      omega
  try simp only [sk] at hc2
  have hnum := nums4_some h4 (fun j hj => hok j (by omega))
  have r0 := atoi_rng (hok 0 (by omega)); have r1 := atoi_rng (hok 1 (by omega)); have r2 := atoi_rng (hok 2 (by omega))
  refine CW.exit (Q.te (Q.te (Q.bx (Q.tn ?_))))
  refine CW.seq ?_
  refine CW.seq ?_
  refine CW.region ?_
  refine W.p O.ld ?_
  refine W.p O.lss ?_
  refine W.p O.mv ?_
  refine W.p O.ld ?_
  refine W.p O.mv ?_
  refine W.p O.len ?_
  refine W.p O.gtr ?_
  refine W.p O.pkB ?_
  refine WL.nil (Q.tn ?_)
  refine CW.cond (vt rfl) (fun hc4 => ?_) (fun hc4 => ?_)
  · try simp only [sk] at hc4
    refine CW.seq ?_
    refine CW.region ?_
    refine W.p (O.bd (hv := PV.nil)) ?_
    refine W.st (vt rfl) (vt rfl) rfl ?_
    refine W.p O.as ?_
    refine W.p O.as ?_
    refine WL.nil (Q.tn ?_)
    refine CW.ret (Q.tr ?_)
    refine ⟨_, [], (RVs.cell rfl (RVs.tmp rfl (RVs.tmp rfl RVs.nil))), List.nil_sublist _, ?_⟩
    refine ⟨?_, rfl⟩
    rw [read_size hc1.1 hnum hc4]; rfl
  try simp only [sk] at hc4
  have hal := acT_le (a := (⟨kindA (s.take 1), (cutB 58 (s.drop 1)).2.1.take (xs.getD 3 0).toNat, xs.getD 0 0, xs.getD 1 0, xs.getD 2 0⟩ : Ac)) r0 r1 r2 (by rw [List.length_take]; omega)
  dsimp only at hal; rw [List.length_take] at hal
  have hal3 := hal; simp only [List.getD_eq_getElem?_getD, List.drop_one] at hal3
  have hcl3 := hcl.2; simp only [List.drop_one] at hcl3
  refine CW.skip (Q.tn ?_)
  refine CW.seq ?_
  refine CW.region ?_
  refine W.p O.mv ?_
  refine W.p O.ld ?_
  refine W.p O.slcH ?_
  first | refine W.p O.fb ?_ | refine W.p O.fa ?_
  first | refine W.st (vt rfl) (vt rfl) rfl ?_ | refine W.st (u := .string _) (vt rfl) (vt rfl) rfl ?_
  refine WL.nil (Q.tn ?_)
  refine CW.seq ?_
  refine CW.drawC [.pin, .flo, .flo, .flo, .pin, .flo, .flo, .flo, .flo, .flo, .flo, .lou, .flo, .flo] [(b3, .cells #[.int .i64 (xs.getD 3 0)] 3 (0, 0)), (b2, .cells (encA (⟨kindA (s.take 1), (cutB 58 (s.drop 1)).2.1.take (xs.getD 3 0).toNat, xs.getD 0 0, xs.getD 1 0, xs.getD 2 0⟩ : Ac)).toArray 73 (0, 0))] rfl (by kernel_rfl) (by repeat (first | exact List.nil_sublist _ | exact List.Sublist.refl _ | apply List.Sublist.cons_cons | apply List.Sublist.cons)) ?_
  refine WX.p (QV.q O.lds) ?_
  refine WX.f (QV.q O.mv) ?_
  refine WX.f (QV.q O.ld) ?_
  refine WX.f (QV.q O.slcL) ?_
  refine WX.p (O.call ⟨rfl, rfl⟩ (AV.cons (vt rfl) (AV.nil)) (fun _ w hw => sc_show (⟨kindA (s.take 1), (cutB 58 (s.drop 1)).2.1.take (xs.getD 3 0).toNat, xs.getD 0 0, xs.getD 1 0, xs.getD 2 0⟩ : Ac) w (in_blk hw) (by rw [List.length_take]; omega) r0 r1 r2 (ht.upd hw))) ?_
  refine WX.f (QV.q O.mv) ?_
  refine WX.f (QV.q O.ld) ?_
  refine WX.f (QV.q O.slcL) ?_
  refine WX.f (QV.q O.addS) ?_
  refine WX.f (QV.q O.mv) ?_
  refine WX.f (QV.q O.eqS) ?_
  refine WX.l (O.st (vt rfl) (vt rfl) rfl) (by repeat (first | exact List.nil_sublist _ | exact List.Sublist.refl _ | apply List.Sublist.cons_cons | apply List.Sublist.cons)) ?_
  refine WX.f (QV.q O.as) ?_
  refine WX.f (QV.q O.as) ?_
  refine WX.nil (Q.tn ?_)
  refine CW.ret ?_
  refine ⟨_, [], (RVs.cell rfl (RVs.tmp rfl (RVs.tmp rfl RVs.nil))), List.nil_sublist _, ?_⟩
  refine ⟨?_, rfl⟩
  rw [read_yes hc1.1 hnum (by omega)]; rfl
end Go.Proofs.YtagiajnpnjakhaaDoor
