/- What wire.index and wire.Put come to. Conditions: rows of not more than a thousand millions, texts of not more than some 2^46 bytes. -/
import Derived.Test.YtkjcmdgideddnaaLaw0
import Derived.Test.YtkjcmdgideddnaaCv
import Derived.Test.YtkjcmdgideddnaaPRL
set_option linter.unusedVariables false
set_option linter.unusedSimpArgs false
namespace Go.Proofs.Ytkjcmdgideddnaa
open Go Go.RowKit
set_option maxRecDepth 100000 in
instance : TSpot Try.prog 151 := ⟨⟨_, rfl, rfl, rfl⟩⟩
def mapL (o : Option Nat) (m : List (List UInt8 × Int)) : Heap := match o with | none => [] | some b => [(b, mObj kT kI m)]
theorem kfind_app (ks : List Kn) (k : Kn) (s : List UInt8) : kfind (ks ++ [k]) s = match kfind ks s with | some t => some t | none => if k.name = s then some k.pos else none := by
  induction ks with
  | nil => simp [kfind]
  | cons x r ih =>
    simp only [List.cons_append, kfind]
    by_cases h : x.name = s
    · simp [h]
    · simp [h, ih]
theorem knOk_iff (k : Kn) : knOk k = true ↔ k.name ≠ [] ∧ nmMay k.name = true ∧ 0 ≤ k.pos ∧ k.pos < 16384 := by
  simp [knOk, and_assoc]
theorem mem_at {α : Type} (d : α) {xs : List α} {i : Int} (h0 : 0 ≤ i) (h1 : i < xs.length) : xs.getD i.toNat d ∈ xs := by
  rw [List.getD_eq_getElem?_getD, List.getElem?_eq_getElem (by omega)]; exact List.getElem_mem _
theorem kn_ok {k : Kn} (h : ((¬k.name = [] ∧ nmMay k.name = true) ∧ ¬k.pos < 0) ∧ ¬16384 ≤ k.pos) : knOk k = true := by
  rw [knOk_iff]; obtain ⟨⟨⟨a1, a2⟩, a3⟩, a4⟩ := h; exact ⟨a1, a2, by omega, by omega⟩
set_option maxRecDepth 100000 in
theorem wr_index (ks : List Kn) (a : Option Addr) (c : Nat) (w : World) (h : In w a (ks.flatMap encK)) (hn : ks.length ≤ 1000000000) (hl : ∀ k ∈ ks, k.name.length ≤ 140737488355328) :
    Fn Try.prog 102 [.slice a ks.length c] w [] fun v L' => ∃ o m, v = .tuple #[.map o, .bool (ks.all knOk)] ∧ L' = mapL o m ∧ (ks.all knOk = true → ∃ b, o = some b ∧ ∀ s, mget m s = kfind ks s) := by
  have row := Row.ofE h
  refine Fn.enter Try.func102 rfl rfl rfl rfl (Holds.nil w) ?_
  refine CW.seq ?_
  refine CW.region ?_
  refine W.p O.as ?_
  refine W.p O.as ?_
  refine WL.nil (Q.tn ?_)
  refine CW.seq ?_
  refine CW.region ?_
  refine W.mm kT kI rfl fun b1 => ?_
  refine W.p O.as ?_
  refine WL.nil (Q.tn ?_)
  refine CW.seq ?_
  refine CW.seq ?_
  refine CW.region ?_
  refine W.p O.mv ?_
  refine W.p O.lenL ?_
  refine W.p O.mv ?_
  refine WL.nil (Q.tn ?_)
  refine CW.block ?_
  refine CW.loopA (X := Int × (List (List UInt8 × Int))) (fun ⟨i, m⟩ => [(4, true, .map (some b1)), (10, true, .slice a ks.length c), (11, true, .int .i64 ks.length), (12, true, .int .i64 i)]) (fun ⟨i, m⟩ => [(b1, mObj kT kI m)]) (fun ⟨i, m⟩ => 0 ≤ i ∧ i ≤ ks.length ∧ (ks.take i.toNat).all knOk = true ∧ ∀ s, mget m s = kfind (ks.take i.toNat) s) (fun ⟨i, m⟩ => (ks.length - i).toNat) (0, []) ?_ ?_
  · exact ⟨by omega, by omega, rfl, fun s => rfl⟩
  rintro ⟨i, m⟩ hI
  try dsimp only at hI ⊢
  obtain ⟨h0, h1, ha, hm⟩ := hI
  have hb : i < ks.length → (ks.getD i.toNat dK).name.length ≤ 140737488355328 := fun h => hl _ (mem_at dK h0 h)
  refine CW.seq ?_
  refine CW.region ?_
  refine W.p O.lss ?_
  refine WL.nil (Q.tn ?_)
  refine CW.seq ?_
  refine CW.cond (vt rfl) (fun hc1 => ?_) (fun hc1 => ?_)
  · try simp only [sk] at hc1
    refine CW.skip (Q.tn ?_)
    refine CW.seq ?_
    refine CW.block ?_
    refine CW.seq ?_
    refine CW.region ?_
    refine W.p O.ixA ?_
    refine W.p O.ldsE ?_
    refine W.al rfl rfl fun b2 => ?_
    refine W.st (vt rfl) (vt rfl) rfl ?_
    refine WL.nil (Q.tn ?_)
    refine CW.seq ?_
    refine CW.seq ?_
    refine CW.region ?_
    first | refine W.p O.fb ?_ | refine W.p O.fa ?_
    refine W.p O.ld ?_
    refine W.p O.eqS ?_
    refine W.p O.mv ?_
    first | refine W.p O.fb ?_ | refine W.p O.fa ?_
    refine W.p O.ld ?_
    refine W.q (O.call ⟨rfl, rfl⟩ (AV.cons (vs rfl) (AV.nil)) (fun _ w hw => nm_May _ w (by omega))) ?_
    refine W.p O.nt ?_
    refine W.p O.pkB ?_
    refine W.p O.mv ?_
    first | refine W.p O.fb ?_ | refine W.p O.fa ?_
    refine W.p O.ld ?_
    refine W.p O.lss ?_
    refine W.p O.pkB ?_
    refine W.p O.mv ?_
    first | refine W.p O.fb ?_ | refine W.p O.fa ?_
    refine W.p O.ld ?_
    refine W.p O.geq ?_
    refine W.p O.pkB ?_
    refine WL.nil (Q.tn ?_)
    refine CW.cond (vt rfl) (fun hc2 => ?_) (fun hc2 => ?_)
    · try simp only [sk] at hc2
      refine CW.seq ?_
      refine CW.region ?_
      refine W.p O.as ?_
      refine W.p O.as ?_
      refine WL.nil (Q.tn ?_)
      refine CW.ret (Q.tr (Q.br (Q.tr (Q.tr (Q.br (Q.tr ?_))))))
      refine ⟨_, [], (RVs.tmp rfl (RVs.tmp rfl RVs.nil)), List.nil_sublist _, ?_⟩
      have hno : ks.all knOk = false := by rw [List.all_eq_false]; exact ⟨_, mem_at dK h0 hc1, by rw [knOk_iff]; rintro ⟨a1, a2, a3, a4⟩; rcases hc2 with ((h | h) | h) | h; exact a1 h; rw [h] at a2; cases a2; omega; omega⟩
      rw [hno]
      exact ⟨none, [], rfl, rfl, fun h => by cases h⟩
    try simp only [sk] at hc2
    refine CW.skip (Q.tn ?_)
    refine CW.seq ?_
    refine CW.region ?_
    refine W.p O.mv ?_
    first | refine W.p O.fb ?_ | refine W.p O.fa ?_
    refine W.p O.ld ?_
    refine W.p (O.bd (hv := PV.cons (vt rfl) (PV.nil))) ?_
    refine W.p (O.lkT (ek := kT) (ev := kI) 0) ?_
    refine W.p O.mv ?_
    first | refine W.p O.extL ?_ | refine W.p O.ext ?_
    first | refine W.p O.extL ?_ | refine W.p O.ext ?_
    refine W.p O.as ?_
    refine W.p O.as ?_
    refine WL.nil (Q.tn ?_)
    refine CW.seq ?_
    refine CW.region ?_
    refine W.p O.mv ?_
    refine W.p O.nt ?_
    refine WL.nil (Q.tn ?_)
    refine CW.cond (vt rfl) (fun hc3 => ?_) (fun hc3 => ?_)
    · try simp only [sk] at hc3
      refine CW.region ?_
      refine W.p O.mv ?_
      first | refine W.p O.fb ?_ | refine W.p O.fa ?_
      refine W.p O.ld ?_
      refine W.p (O.bd (hv := PV.cons (vt rfl) (PV.nil))) ?_
      first | refine W.p O.fb ?_ | refine W.p O.fa ?_
      refine W.p O.ld ?_
      refine W.mu (ek := kT) (ev := kI) (vt rfl) (vt rfl) (vt rfl) ?_
      refine WL.nil (Q.bn (Q.tn ?_))
      refine CW.region ?_
      first | refine W.p O.addN ?_ | refine W.p O.add ?_
      refine W.p O.mv ?_
      refine WL.nil (Q.tn ?_)
      refine nextA (_, mput m _ _) ?_ ?_
      · try dsimp only
        have hk := kn_ok hc2
        refine ⟨by omega, by omega, by rw [take_at' dK h0 hc1, List.all_append, ha]; simp only [List.all_cons, hk, List.all_nil, Bool.and_true], fun s => ?_⟩
        rw [take_at' dK h0 hc1, kfind_app, ← hm s, mget_mput]
        generalize (ks.getD i.toNat dK) = k at *
        by_cases e : s = k.name
        · subst e; rw [Option.isSome_eq_false_iff, Option.isNone_iff_eq_none] at hc3; simp [hc3]
        · rw [if_neg e]; cases mget m s <;> simp [Ne.symm e]
      · try dsimp only
        omega
    try simp only [sk] at hc3
    refine CW.skip (Q.bn (Q.tn ?_))
    refine CW.region ?_
    first | refine W.p O.addN ?_ | refine W.p O.add ?_
    refine W.p O.mv ?_
    refine WL.nil (Q.tn ?_)
    refine nextA (_, m) ?_ ?_
    · try dsimp only
      have hk := kn_ok hc2
      refine ⟨by omega, by omega, by rw [take_at' dK h0 hc1, List.all_append, ha]; simp only [List.all_cons, hk, List.all_nil, Bool.and_true], fun s => ?_⟩
      rw [take_at' dK h0 hc1, kfind_app, ← hm s]
      generalize (ks.getD i.toNat dK) = k at *
      by_cases e : k.name = s
      · subst e; cases hq : mget m k.name with | none => rw [hq] at hc3; cases hc3 | some t => rfl
      · cases mget m s <;> simp [e]
    · try dsimp only
      omega
  try simp only [sk] at hc1
  refine CW.exit (Q.te (Q.te (Q.bx (Q.tn ?_))))
  refine CW.seq ?_
  refine CW.region ?_
  refine W.p O.mv ?_
  refine W.p O.as ?_
  refine W.p O.as ?_
  refine WL.nil (Q.tn ?_)
  refine CW.ret ?_
  refine ⟨_, [(b1, mObj kT kI m)], (RVs.tmp rfl (RVs.tmp rfl RVs.nil)), (by repeat (first | exact List.Sublist.refl _ | exact hSub _ | exact List.sublist_append_left _ _ | exact List.nil_sublist _ | refine List.Sublist.append (List.Sublist.refl _) ?_ | apply List.Sublist.cons_cons | apply List.Sublist.cons | exact List.sublist_append_left _ _ | refine List.Sublist.trans ?_ (List.sublist_append_right _ _))), ?_⟩
  have e : ks.take i.toNat = ks := List.take_of_length_le (by omega)
  rw [e] at ha hm
  rw [ha]
  exact ⟨some b1, m, rfl, rfl, fun _ => ⟨b1, rfl, hm⟩⟩
set_option maxRecDepth 100000 in
theorem wr_Put (at_ : Int) (ks : List Kn) (nm : List UInt8) (a : Option Addr) (c : Nat) (w : World) (h : In w a (ks.flatMap encK)) (hn : ks.length ≤ 1000000000) (hl : ∀ k ∈ ks, k.name.length ≤ 140737488355328) (hs : nm.length ≤ 140737488355328) :
    Fn Try.prog 48 [.int .i64 at_, .slice a ks.length c, .string (S nm)] w [] fun v L' => ∃ o c' sp, v = .tuple #[.string (S (nmPut at_ ks nm).1), .slice (oa o) (nmPut at_ ks nm).2.1.length c', .int .i64 (nmPut at_ ks nm).2.2] ∧ OwnOk o c' 2 (nmPut at_ ks nm).2.1.length (List.length sp) ∧ L' = rowL o 66 (flat encK (nmPut at_ ks nm).2.1 sp) := by
  have row := Row.ofE h
  refine Fn.enter Try.func48 rfl rfl rfl rfl (Holds.nil w) ?_
  refine CW.seq ?_
  refine CW.region ?_
  refine W.p O.as ?_
  refine W.p O.as ?_
  refine W.p O.as ?_
  refine WL.nil (Q.tn ?_)
  refine CW.seq ?_
  refine CW.region ?_
  refine W.p O.mv ?_
  refine W.callN (first := []) (cap := []) rfl (vt rfl) (AV.cons (vt rfl) (AV.nil)) (fun w hu => wr_index ks a c w (row.h _ w hu) hn hl) ?_; rintro _ _ ⟨om, m, rfl, rfl, hmap⟩
  refine W.p O.mv ?_
  first | refine W.p O.extL ?_ | refine W.p O.ext ?_
  first | refine W.p O.extL ?_ | refine W.p O.ext ?_
  refine W.p O.as ?_
  refine W.p O.as ?_
  refine WL.nil (Q.tn ?_)
  refine CW.seq ?_
  refine CW.seq ?_
  refine CW.region ?_
  refine W.p O.mv ?_
  refine W.p O.nt ?_
  refine W.p O.mv ?_
  refine W.p O.mv ?_
  refine W.p O.lss ?_
  refine W.p O.pkB ?_
  refine W.p O.mv ?_
  refine W.p O.mv ?_
  refine W.p O.gtr ?_
  refine W.p O.pkB ?_
  refine W.p O.mv ?_
  refine W.p O.mv ?_
  refine W.q (O.call ⟨rfl, rfl⟩ (AV.cons (vs rfl) (AV.nil)) (fun _ w hw => nm_May _ w (by omega))) ?_
  refine W.p O.nt ?_
  refine W.p O.pkB ?_
  refine WL.nil (Q.tn ?_)
  refine CW.cond (vt rfl) (fun hc1 => ?_) (fun hc1 => ?_)
  · try simp only [sk] at hc1
    refine CW.seq ?_
    refine CW.region ?_
    refine W.p O.as ?_
    refine W.p O.as ?_
    refine W.p O.as ?_
    refine WL.nil (Q.tn ?_)
    refine CW.ret (Q.tr ?_)
    refine ⟨_, [], (RVs.tmp rfl (RVs.tmp rfl (RVs.tmp rfl RVs.nil))), List.nil_sublist _, ?_⟩
    have hbad : (ks.all knOk && decide (0 ≤ at_) && decide (at_ ≤ 65535) && nmMay nm) = false := by rcases hc1 with ((h | h) | h) | h; rw [h]; rfl; rw [decide_eq_false (by omega : ¬ 0 ≤ at_)]; simp; rw [decide_eq_false (by omega : ¬ at_ ≤ 65535)]; simp; rw [h]; simp
    rw [nmPut_bad hbad]
    exact ⟨none, 0, [], rfl, OwnOk.nil, rfl⟩
  try simp only [sk] at hc1
  obtain ⟨⟨⟨hk, ha0⟩, ha1⟩, hmay⟩ := hc1
  obtain ⟨bm, rfl, hm⟩ := hmap hk
  dsimp only [mapL]
  have hok : (ks.all knOk && decide (0 ≤ at_) && decide (at_ ≤ 65535) && nmMay nm) = true := by rw [hk, hmay, decide_eq_true (by omega), decide_eq_true (by omega)]; rfl
  have hlab := nmMay_labs hmay
  refine CW.skip (Q.tn ?_)
  refine CW.seq ?_
  refine CW.region ?_
  refine W.p O.mv ?_
  refine W.apN rfl (vt rfl) (vt rfl) (by first | rfl | omega) rfl (by first | omega | (simp; omega)) fun o1 c1 sp1 ok1 ne1 gt1 => ?_
  have nk1 := ok1.nk; have le1 := ok1.2.2.1; try simp only [List.length_append, List.length_cons, List.length_nil] at le1
  refine W.p O.as ?_
  refine WL.nil (Q.tn ?_)
  refine CW.seq ?_
  refine CW.region ?_
  refine W.p O.as ?_
  refine WL.nil (Q.tn ?_)
  refine CW.seq ?_
  refine CW.seq ?_
  refine CW.region ?_
  refine W.p O.mv ?_
  refine W.p O.as ?_
  refine WL.nil (Q.tn ?_)
  refine CW.block ?_
  refine CW.loopA (X := (List UInt8) × (List (List UInt8)) × (List UInt8) × (List Kn) × (Option Nat) × Nat × (List Value)) (fun ⟨left, ls, out, all, o, cc, sp⟩ => [(0, true, .int .i64 at_), (9, true, .map (some bm)), (11, true, .slice (oa o) all.length cc), (12, true, .string (S out)), (13, true, .string (S left))]) (fun ⟨left, ls, out, all, o, cc, sp⟩ => rowL o 66 (flat encK all sp) ++ [(bm, mObj kT kI m)]) (fun ⟨left, ls, out, all, o, cc, sp⟩ => OwnOk o cc 2 all.length sp.length ∧ left = joinD ls ∧ ls.all labOk = true ∧ ls.length ≤ 8 ∧ putL ks at_ (labs nm) [] ks = putL ks at_ ls out all ∧ out.length ≤ 9 * (8 - ls.length) ∧ all.length ≤ ks.length + 8 - ls.length) (fun ⟨left, ls, out, all, o, cc, sp⟩ => ls.length) (nm, labs nm, [], ks, o1, c1, sp1) ?_ ?_
  · exact ⟨ok1, (joinD_labs nm).symm, hlab.1, hlab.2, rfl, by simp, by omega⟩
  rintro ⟨left, ls, out, all, o, cc, sp⟩ hI
  try dsimp only at hI ⊢
  obtain ⟨hok2, hleft, hla, hl8, hput, hol, hal⟩ := hI
  have nk2 := hok2.nk
  have hto : 0 ≤ (mget m left).getD 0 ∧ (mget m left).getD 0 < 16384 := by rw [hm]; cases hq : kfind ks left with | none => simp | some t => exact kfind_ok hk hq
  have hjl := joinD_len hla
  rw [← hleft] at hjl
  refine CW.seq ?_
  refine CW.seq ?_
  refine CW.region ?_
  refine W.p O.mv ?_
  refine W.p O.neS ?_
  refine WL.nil (Q.tn ?_)
  refine CW.cond (vt rfl) (fun hc2 => ?_) (fun hc2 => ?_)
  · try simp only [sk] at hc2
    cases ls with | nil => exact absurd hleft hc2 | cons l r => ?_
    simp only [List.all_cons, Bool.and_eq_true] at hla
    have hcj := cut_join (r := r) hla.1
    rw [← hleft] at hcj
    have hll := labOk_len hla.1
    have hcl1 : (cutB 46 left).1.length = l.length := by rw [hcj.1]
    have hb1 : (beb ((cutB 46 left).1.length : Int) 1).length = 1 := rfl
    simp only [List.length_cons] at hl8 hol hal hjl
    refine CW.skip (Q.tn ?_)
    refine CW.block ?_
    refine CW.seq ?_
    refine CW.seq ?_
    refine CW.region ?_
    refine W.p O.mv ?_
    refine W.p O.mv ?_
    refine W.p (O.bd (hv := PV.cons (vt rfl) (PV.nil))) ?_
    refine W.p (O.lkT (ek := kT) (ev := kI) 0) ?_
    refine W.p O.mv ?_
    first | refine W.p O.extL ?_ | refine W.p O.ext ?_
    first | refine W.p O.extL ?_ | refine W.p O.ext ?_
    refine W.p O.as ?_
    refine W.p O.as ?_
    refine WL.nil (Q.tn ?_)
    refine CW.seq ?_
    refine CW.region ?_
    refine W.p O.mv ?_
    refine WL.nil (Q.tn ?_)
    refine CW.cond (vt rfl) (fun hc3 => ?_) (fun hc3 => ?_)
    · try simp only [sk] at hc3
      refine CW.seq ?_
      refine CW.region ?_
      refine W.p O.mv ?_
      refine W.p O.mv ?_
      first | refine W.p O.addN ?_ | refine W.p O.add ?_
      refine W.q (O.call ⟨rfl, rfl⟩ (AV.cons (vt rfl) (AV.cons (vt rfl) (AV.nil))) (fun _ w hw => be_Bytes _ 2 _ (by decide))) ?_
      refine W.p O.addS ?_
      refine W.p O.mv ?_
      refine W.p O.as ?_
      refine W.p O.as ?_
      refine W.p O.as ?_
      refine WL.nil (Q.tn ?_)
      refine CW.ret (Q.tr (Q.br (Q.tr (Q.br (Q.tr ?_)))))
      refine ⟨_, rowL o 66 (flat encK all sp), (RVs.tmp rfl (RVs.tmp rfl (RVs.tmp rfl RVs.nil))), (by repeat (first | exact List.Sublist.refl _ | exact hSub _ | exact List.sublist_append_left _ _ | exact List.nil_sublist _ | refine List.Sublist.append (List.Sublist.refl _) ?_ | apply List.Sublist.cons_cons | apply List.Sublist.cons | exact List.sublist_append_left _ _ | refine List.Sublist.trans ?_ (List.sublist_append_right _ _))), ?_⟩
      rw [nmPut_ok hok, hput]
      cases hq : kfind ks (joinD (l :: r)) with | none => rw [hm, hleft, hq] at hc3; cases hc3 | some t => ?_
      rw [putL_hit hq, hm, hleft, hq]
      exact ⟨o, cc, sp, rfl, hok2, rfl⟩
    try simp only [sk] at hc3
    refine CW.skip (Q.tn ?_)
    refine CW.seq ?_
    refine CW.seq ?_
    refine CW.region ?_
    refine W.p O.mv ?_
    refine W.p O.mv ?_
    refine W.p O.len ?_
    first | refine W.p O.addN ?_ | refine W.p O.add ?_
    refine W.p O.as ?_
    refine WL.nil (Q.tn ?_)
    refine CW.seq ?_
    refine CW.region ?_
    refine W.p O.mv ?_
    refine W.p O.lss ?_
    refine WL.nil (Q.tn ?_)
    refine CW.cond (vt rfl) (fun hc4 => ?_) (fun hc4 => ?_)
    · try simp only [sk] at hc4
      refine CW.region ?_
      refine W.p O.mv ?_
      refine W.p O.mv ?_
      refine W.p O.mv ?_
      refine W.p (O.bd (hv := PV.cons (vt rfl) (PV.cons (vt rfl) (PV.nil)))) ?_
      refine W.bs encK [⟨_, _⟩] rfl (PV.cons (vt rfl) (PV.nil)) rfl rfl rfl (by decide) rfl fun b1 => ?_
      refine W.ap rfl (vt rfl) (vt rfl) (by first | rfl | omega) (by first | rfl | omega) rfl (by first | assumption | exact OwnOk.nil | exact OwnOk.lit) (by first | omega | (simp; omega)) fun o2 c2 sp2 ok2 ne2 gt2 => ?_
      have nk2 := ok2.nk; have le2 := ok2.2.2.1; try simp only [List.length_append, List.length_cons, List.length_nil] at le2
      refine W.p O.as ?_
      refine WL.nil (Q.tn ?_)
      refine CW.seq ?_
      refine CW.region ?_
      refine W.p O.mv ?_
      refine W.q (O.call ⟨rfl, rfl⟩ (AV.cons (vt rfl) (AV.cons (vt rfl) (AV.nil))) (fun _ w hw => st_Cut1 _ 46 w (by omega))) ?_
      refine W.p O.mv ?_
      first | refine W.p O.extL ?_ | refine W.p O.ext ?_
      first | refine W.p O.extL ?_ | refine W.p O.ext ?_
      first | refine W.p O.extL ?_ | refine W.p O.ext ?_
      refine W.p O.as ?_
      refine W.p O.as ?_
      refine W.p O.as ?_
      refine WL.nil (Q.tn ?_)
      refine CW.seq ?_
      refine CW.region ?_
      refine W.p O.mv ?_
      refine W.p O.mv ?_
      refine W.p O.len ?_
      refine W.q (O.call ⟨rfl, rfl⟩ (AV.cons (vt rfl) (AV.cons (vt rfl) (AV.nil))) (fun _ w hw => be_Bytes _ 1 _ (by decide))) ?_
      refine W.p O.mv ?_
      refine W.p O.addS ?_
      refine W.p O.addS ?_
      refine W.p O.as ?_
      refine WL.nil (Q.tn ?_)
      refine CW.region ?_
      refine W.p O.mv ?_
      refine W.p O.as ?_
      refine WL.nil (Q.bn (Q.tn ?_))
      refine nextA (_, r, _, all ++ [⟨left, at_ + out.length⟩], _, _, _) ?_ ?_
      · try dsimp only
        have hno : kfind ks (joinD (l :: r)) = none := by rw [← hleft, ← hm]; simpa using hc3
        rw [putL_miss hno, if_pos hc4, ← hleft] at hput
        refine ⟨by assumption, hcj.2, hla.2, by omega, ?_, ?_, by simp only [List.length_append, List.length_cons, List.length_nil]; omega⟩
        · rw [hput, hcj.1, beb_one, byteOf_cast]; simp
        · rw [hcj.1, beb_one]; simp only [List.length_append, List.length_cons, List.length_nil]; omega
      · try dsimp only
        simp
    try simp only [sk] at hc4
    refine CW.skip (Q.tn ?_)
    refine CW.seq ?_
    refine CW.region ?_
    refine W.p O.mv ?_
    refine W.q (O.call ⟨rfl, rfl⟩ (AV.cons (vt rfl) (AV.cons (vt rfl) (AV.nil))) (fun _ w hw => st_Cut1 _ 46 w (by omega))) ?_
    refine W.p O.mv ?_
    first | refine W.p O.extL ?_ | refine W.p O.ext ?_
    first | refine W.p O.extL ?_ | refine W.p O.ext ?_
    first | refine W.p O.extL ?_ | refine W.p O.ext ?_
    refine W.p O.as ?_
    refine W.p O.as ?_
    refine W.p O.as ?_
    refine WL.nil (Q.tn ?_)
    refine CW.seq ?_
    refine CW.region ?_
    refine W.p O.mv ?_
    refine W.p O.mv ?_
    refine W.p O.len ?_
    refine W.q (O.call ⟨rfl, rfl⟩ (AV.cons (vt rfl) (AV.cons (vt rfl) (AV.nil))) (fun _ w hw => be_Bytes _ 1 _ (by decide))) ?_
    refine W.p O.mv ?_
    refine W.p O.addS ?_
    refine W.p O.addS ?_
    refine W.p O.as ?_
    refine WL.nil (Q.tn ?_)
    refine CW.region ?_
    refine W.p O.mv ?_
    refine W.p O.as ?_
    refine WL.nil (Q.bn (Q.tn ?_))
    refine nextA (_, r, _, all, _, _, _) ?_ ?_
    · try dsimp only
      have hno : kfind ks (joinD (l :: r)) = none := by rw [← hleft, ← hm]; simpa using hc3
      rw [putL_miss hno, if_neg hc4] at hput
      refine ⟨hok2, hcj.2, hla.2, by omega, ?_, ?_, by omega⟩
      · rw [hput, hcj.1, beb_one, byteOf_cast]; simp
      · rw [hcj.1, beb_one]; simp only [List.length_append, List.length_cons, List.length_nil]; omega
    · try dsimp only
      simp
  try simp only [sk] at hc2
  refine CW.exit (Q.te (Q.te (Q.bx (Q.tn ?_))))
  refine CW.seq ?_
  refine CW.region ?_
  refine W.p O.mv ?_
  refine W.p O.addS ?_
  refine W.p O.mv ?_
  refine W.p O.as ?_
  refine W.p O.as ?_
  refine W.p O.as ?_
  refine WL.nil (Q.tn ?_)
  refine CW.ret ?_
  refine ⟨_, rowL o 66 (flat encK all sp), (RVs.tmp rfl (RVs.tmp rfl (RVs.tmp rfl RVs.nil))), (by repeat (first | exact List.Sublist.refl _ | exact hSub _ | exact List.sublist_append_left _ _ | exact List.nil_sublist _ | refine List.Sublist.append (List.Sublist.refl _) ?_ | apply List.Sublist.cons_cons | apply List.Sublist.cons | exact List.sublist_append_left _ _ | refine List.Sublist.trans ?_ (List.sublist_append_right _ _))), ?_⟩
  have hnil : ls = [] := by cases ls with | nil => rfl | cons l r => exact absurd (hleft.symm.trans (by simpa using hc2)) (joinD_ne (by simp) hla)
  subst hnil
  rw [nmPut_ok hok, hput, putL_end]
  exact ⟨o, cc, sp, rfl, hok2, rfl⟩
end Go.Proofs.Ytkjcmdgideddnaa
