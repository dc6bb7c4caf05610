/- What the document's PutName and GetName come to. Conditions: rows of not more than a thousand millions, texts of not more than some 2^42 bytes. -/
import Derived.Test.YtkjcmdgideddnaaRName
import Derived.Test.YtkjcmdgideddnaaWire
set_option linter.unusedVariables false
set_option linter.unusedSimpArgs false
namespace Go.Proofs.Ytkjcmdgideddnaa
open Go Go.RowKit
set_option maxRecDepth 100000 in
theorem ref_PutName (at_ : Int) (ks : List Kn) (nm : List UInt8) (a : Option Addr) (c : Nat) (w : World) (h : In w a (ks.flatMap encK)) (hn : ks.length ≤ 1000000000) (hl : ∀ k ∈ ks, k.name.length ≤ 4398046511104) (hs : nm.length ≤ 4398046511104) :
    Fn Try.prog 49 [.int .i64 at_, .slice a ks.length c, .string (S nm)] w [] fun v L' => ∃ o c' sp, v = .tuple #[.string (S (nmPut at_ ks nm).1), .slice (oa o) (nmPut at_ ks nm).2.1.length c', .int .i64 (nmPut at_ ks nm).2.2] ∧ OwnOk o c' 2 (nmPut at_ ks nm).2.1.length (List.length sp) ∧ L' = rowL o 66 (flat encK (nmPut at_ ks nm).2.1 sp) := by
  have row := Row.ofE h
  refine Fn.enter Try.func49 rfl rfl rfl rfl (Holds.nil w) ?_
  refine CW.seq ?_
  refine CW.region ?_
  refine W.p O.as ?_
  refine W.p O.as ?_
  refine W.p O.as ?_
  refine WL.nil (Q.tn ?_)
  refine CW.seq ?_
  refine CW.seq ?_
  refine CW.region ?_
  refine W.p O.mv ?_
  refine W.p O.lss ?_
  refine W.p O.mv ?_
  refine W.p O.mv ?_
  refine W.p O.gtr ?_
  refine W.p O.pkB ?_
  refine W.p O.mv ?_
  refine W.p O.mv ?_
  refine W.q (O.call ⟨rfl, rfl⟩ (AV.cons (vs rfl) (AV.nil)) (fun _ w hw => ref_NameMay _ w (by omega))) ?_
  refine W.p O.nt ?_
  refine W.p O.pkB ?_
  refine W.p O.mv ?_
  refine W.p O.mv ?_
  refine W.q (O.call ⟨rfl, rfl⟩ (AV.cons (vs rfl) (AV.nil)) (fun _ w hw => ref_knownMay ks a c w (row.h _ w hw) hn hl)) ?_
  refine W.p O.nt ?_
  refine W.p O.pkB ?_
  refine WL.nil (Q.tn ?_)
  refine CW.cond (vt rfl) (fun hc1 => ?_) (fun hc1 => ?_)
  · try simp only [sk] at hc1
    refine CW.seq ?_
    refine CW.region ?_
    refine W.p O.as ?_
    refine W.p O.as ?_
    refine W.p O.as ?_
    refine WL.nil (Q.tn ?_)
    refine CW.ret (Q.tr ?_)
    refine ⟨_, [], (RVs.tmp rfl (RVs.tmp rfl (RVs.tmp rfl RVs.nil))), List.nil_sublist _, ?_⟩
    have hbad : (ks.all knOk && decide (0 ≤ at_) && decide (at_ ≤ 65535) && nmMay nm) = false := by rcases hc1 with ((h | h) | h) | h; rw [decide_eq_false (by omega : ¬ 0 ≤ at_)]; simp; rw [decide_eq_false (by omega : ¬ at_ ≤ 65535)]; simp; rw [h]; simp; rw [h]; rfl
    rw [nmPut_bad hbad]
    exact ⟨none, 0, [], rfl, OwnOk.nil, rfl⟩
  try simp only [sk] at hc1
  obtain ⟨⟨⟨ha0, ha1⟩, hmay⟩, hk⟩ := hc1
  have hok : (ks.all knOk && decide (0 ≤ at_) && decide (at_ ≤ 65535) && nmMay nm) = true := by rw [hk, hmay, decide_eq_true (by omega), decide_eq_true (by omega)]; rfl
  have hlab := nmMay_labs hmay
  refine CW.skip (Q.tn ?_)
  refine CW.seq ?_
  refine CW.region ?_
  refine W.bs0 encK rfl fun b1 => ?_
  refine W.p O.mv ?_
  refine W.ap rfl (vt rfl) (vt rfl) (by first | rfl | omega) (by first | rfl | omega) rfl (by first | assumption | exact OwnOk.nil | exact OwnOk.lit) (by first | omega | (simp; omega)) fun o1 c1 sp1 ok1 ne1 gt1 => ?_
  have nk1 := ok1.nk; have le1 := ok1.2.2.1; try simp only [List.length_append, List.length_cons, List.length_nil] at le1
  refine W.p O.as ?_
  refine WL.nil (Q.tn ?_)
  refine CW.seq ?_
  refine CW.region ?_
  refine W.p O.as ?_
  refine WL.nil (Q.tn ?_)
  refine CW.seq ?_
  refine CW.region ?_
  refine W.p O.mv ?_
  refine W.p O.as ?_
  refine WL.nil (Q.tn ?_)
  refine CW.seq ?_
  refine CW.block ?_
  refine CW.loopA (X := (List UInt8) × (List (List UInt8)) × (List Kn) × (List UInt8) × (List Kn) × (Option Nat) × Nat × (List Value)) (fun ⟨left, ls, added, out, all, o, cc, sp⟩ => [(0, true, .int .i64 at_), (9, true, .slice (oa o) all.length cc), (10, true, .string (S out)), (11, true, .string (S left))]) (fun ⟨left, ls, added, out, all, o, cc, sp⟩ => rowL o 66 (flat encK all sp)) (fun ⟨left, ls, added, out, all, o, cc, sp⟩ => OwnOk o cc 2 all.length sp.length ∧ left = joinD ls ∧ ls.all labOk = true ∧ ls.length ≤ 8 ∧ putL ks at_ (labs nm) [] ks = putL ks at_ ls out all ∧ out.length ≤ 9 * (8 - ls.length) ∧ all.length ≤ ks.length + 8 - ls.length ∧ all = ks ++ added ∧ (∀ k ∈ added, left.length < k.name.length)) (fun ⟨left, ls, added, out, all, o, cc, sp⟩ => ls.length) (nm, labs nm, [], [], ks, o1, c1, sp1) ?_ ?_
  · exact ⟨ok1, (joinD_labs nm).symm, hlab.1, hlab.2, rfl, by simp, by omega, by simp, by simp⟩
  rintro ⟨left, ls, added, out, all, o, cc, sp⟩ hI
  try dsimp only at hI ⊢
  obtain ⟨hok2, hleft, hla, hl8, hput, hol, hal, hall, hadd⟩ := hI
  have nk2 := hok2.nk
  have hkf : kfind all left = kfind ks left := by rw [hall]; exact kfind_long ks hadd
  have hto : -1 ≤ (kfind all left).getD (-1) ∧ (kfind all left).getD (-1) < 16384 := by rw [hkf]; cases hq : kfind ks left with | none => simp | some t => have := kfind_ok hk hq; simp only [Option.getD_some]; omega
  have hjl := joinD_len hla
  rw [← hleft] at hjl
  refine CW.seq ?_
  refine CW.seq ?_
  refine CW.region ?_
  refine W.p O.mv ?_
  refine W.p O.neS ?_
  refine WL.nil (Q.tn ?_)
  refine CW.cond (vt rfl) (fun hc2 => ?_) (fun hc2 => ?_)
  · try simp only [sk] at hc2
    cases ls with | nil => exact absurd hleft hc2 | cons l r => ?_
    have hla0 := hla
    simp only [List.all_cons, Bool.and_eq_true] at hla
    have hll := labOk_len hla.1
    simp only [List.length_cons] at hl8 hol hal hjl
    have hsl : split left = l :: r := by rw [hleft]; exact split_join _ (by simp) (fun x hx => labOk_dot (List.all_eq_true.1 hla0 x hx))
    have hg0 : (split left).getD (0 : Int).toNat [] = l := by rw [hsl]; rfl
    have hgl : ((split left).getD (0 : Int).toNat []).length = l.length := by rw [hg0]
    have hgl2 : ((split left)[0]?.getD []).length = l.length := by rw [hsl]; rfl
    have hsn : (split left).length = r.length + 1 := by rw [hsl]; rfl
    have hb1 : (beb (((split left).getD (0 : Int).toNat []).length : Int) 1).length = 1 := rfl
    have hrj := rest_join hleft
    have hjlt : (joinD r).length < left.length := by rw [hleft]; exact join_lt hla.1
    refine CW.skip (Q.tn ?_)
    refine CW.block ?_
    refine CW.seq ?_
    refine CW.region ?_
    refine W.p O.mv ?_
    refine W.p O.mv ?_
    refine W.q (O.call ⟨rfl, rfl⟩ (AV.cons (vt rfl) (AV.cons (vt rfl) (AV.nil))) (fun _ w hw => ref_where all left _ _ w (RowL.h _ hw) (by omega))) ?_
    refine W.p O.as ?_
    refine WL.nil (Q.tn ?_)
    refine CW.seq ?_
    refine CW.seq ?_
    refine CW.region ?_
    refine W.p O.mv ?_
    refine W.p O.geq ?_
    refine WL.nil (Q.tn ?_)
    refine CW.cond (vt rfl) (fun hc3 => ?_) (fun hc3 => ?_)
    · try simp only [sk] at hc3
      refine CW.seq ?_
      refine CW.region ?_
      refine W.p O.mv ?_
      refine W.p O.mv ?_
      first | refine W.p O.addN ?_ | refine W.p O.add ?_
      refine W.q (O.call ⟨rfl, rfl⟩ (AV.cons (vt rfl) (AV.cons (vt rfl) (AV.nil))) (fun _ w hw => ref_Num _ 2 w (by decide) (by decide))) ?_
      refine W.p O.addS ?_
      refine W.p O.mv ?_
      refine W.p O.as ?_
      refine W.p O.as ?_
      refine W.p O.as ?_
      refine WL.nil (Q.tn ?_)
      refine CW.ret (Q.tr (Q.br (Q.tr (Q.br (Q.tr ?_)))))
      refine ⟨_, rowL o 66 (flat encK all sp), (RVs.tmp rfl (RVs.tmp rfl (RVs.tmp rfl RVs.nil))), (by repeat (first | exact List.Sublist.refl _ | exact hSub _ | exact List.sublist_append_left _ _ | exact List.nil_sublist _ | refine List.Sublist.append (List.Sublist.refl _) ?_ | apply List.Sublist.cons_cons | apply List.Sublist.cons | exact List.sublist_append_left _ _ | refine List.Sublist.trans ?_ (List.sublist_append_right _ _))), ?_⟩
      rw [nmPut_ok hok, hput]
      cases hq : kfind ks (joinD (l :: r)) with | none => (rw [hkf, hleft, hq] at hc3; exact absurd hc3 (by decide)) | some t => ?_
      rw [putL_hit hq, hkf, hleft, hq]
      exact ⟨o, cc, sp, rfl, hok2, rfl⟩
    try simp only [sk] at hc3
    refine CW.skip (Q.tn ?_)
    refine CW.seq ?_
    refine CW.seq ?_
    refine CW.region ?_
    refine W.p O.mv ?_
    refine W.p O.mv ?_
    refine W.p O.len ?_
    first | refine W.p O.addN ?_ | refine W.p O.add ?_
    refine W.p O.lss ?_
    refine WL.nil (Q.tn ?_)
    refine CW.cond (vt rfl) (fun hc4 => ?_) (fun hc4 => ?_)
    · try simp only [sk] at hc4
      refine CW.region ?_
      refine W.p O.mv ?_
      refine W.p O.mv ?_
      refine W.p O.mv ?_
      refine W.p O.mv ?_
      refine W.p O.len ?_
      first | refine W.p O.addN ?_ | refine W.p O.add ?_
      refine W.p (O.bd (hv := PV.cons (vt rfl) (PV.cons (vt rfl) (PV.nil)))) ?_
      refine W.bs encK [⟨_, _⟩] rfl (PV.cons (vt rfl) (PV.nil)) rfl rfl rfl (by decide) rfl fun b2 => ?_
      refine W.ap rfl (vt rfl) (vt rfl) (by first | rfl | omega) (by first | rfl | omega) rfl (by first | assumption | exact OwnOk.nil | exact OwnOk.lit) (by first | omega | (simp; omega)) fun o2 c2 sp2 ok2 ne2 gt2 => ?_
      have nk2 := ok2.nk; have le2 := ok2.2.2.1; try simp only [List.length_append, List.length_cons, List.length_nil] at le2
      refine W.p O.as ?_
      refine WL.nil (Q.tn ?_)
      refine CW.seq ?_
      refine CW.region ?_
      refine W.p O.mv ?_
      refine W.callN (first := []) (cap := []) rfl (vt rfl) (AV.cons (vt rfl) (AV.nil)) (fun w hu => ref_parts _ w (by omega)) ?_; rintro _ _ ⟨o9, c9, sp9, rfl, ok9, rfl⟩; have nk9 := ok9.nk
      refine W.p O.ixA ?_
      refine W.p O.ldE ?_
      refine W.p O.as ?_
      refine WL.nil (Q.tn ?_)
      refine CW.seq ?_
      refine CW.region ?_
      refine W.p O.mv ?_
      refine W.p O.mv ?_
      refine W.p O.len ?_
      refine W.q (O.call ⟨rfl, rfl⟩ (AV.cons (vt rfl) (AV.cons (vt rfl) (AV.nil))) (fun _ w hw => ref_Num _ 1 w (by decide) (by decide))) ?_
      refine W.p O.addS ?_
      refine W.p O.mv ?_
      refine W.p O.addS ?_
      refine W.p O.as ?_
      refine WL.nil (Q.tn ?_)
      refine CW.region ?_
      refine W.p O.mv ?_
      refine W.p O.mv ?_
      refine W.p O.len ?_
      first | refine W.p O.addN ?_ | refine W.p O.add ?_
      refine W.p O.mv ?_
      refine W.p O.len ?_
      refine W.p O.min ?_
      refine W.p O.slcL ?_
      refine W.p O.as ?_
      refine WL.nil (Q.bn (Q.tn ?_))
      refine nextA (_, r, added ++ [⟨left, at_ + out.length⟩], _, all ++ [⟨left, at_ + out.length⟩], _, _, _) ?_ ?_
      · try dsimp only
        have hno : kfind ks (joinD (l :: r)) = none := by rw [← hleft, ← hkf]; cases hq : kfind all left with | none => rfl | some t => have h7 := kfind_ok hk (hkf ▸ hq); rw [hq] at hc3; exact absurd h7.1 hc3
        rw [putL_miss hno, if_pos hc4, ← hleft] at hput
        simp only [hg0, hrj]
        refine ⟨by assumption, by trivial, hla.2, by omega, ?_, ?_, by simp only [List.length_append, List.length_cons, List.length_nil]; omega, by rw [hall, List.append_assoc], ?_⟩
        · rw [hput, beb_one, byteOf_cast]; simp
        · rw [beb_one]; simp only [List.length_append, List.length_cons, List.length_nil]; omega
        · intro k hk5; rcases List.mem_append.1 hk5 with h5 | h5; have := hadd k h5; omega; simp only [List.mem_singleton] at h5; subst h5; exact hjlt
      · try dsimp only
        simp
    try simp only [sk] at hc4
    refine CW.skip (Q.tn ?_)
    refine CW.seq ?_
    refine CW.region ?_
    refine W.p O.mv ?_
    refine W.callN (first := []) (cap := []) rfl (vt rfl) (AV.cons (vt rfl) (AV.nil)) (fun w hu => ref_parts _ w (by omega)) ?_; rintro _ _ ⟨o9, c9, sp9, rfl, ok9, rfl⟩; have nk9 := ok9.nk
    refine W.p O.ixA ?_
    refine W.p O.ldE ?_
    refine W.p O.as ?_
    refine WL.nil (Q.tn ?_)
    refine CW.seq ?_
    refine CW.region ?_
    refine W.p O.mv ?_
    refine W.p O.mv ?_
    refine W.p O.len ?_
    refine W.q (O.call ⟨rfl, rfl⟩ (AV.cons (vt rfl) (AV.cons (vt rfl) (AV.nil))) (fun _ w hw => ref_Num _ 1 w (by decide) (by decide))) ?_
    refine W.p O.addS ?_
    refine W.p O.mv ?_
    refine W.p O.addS ?_
    refine W.p O.as ?_
    refine WL.nil (Q.tn ?_)
    refine CW.region ?_
    refine W.p O.mv ?_
    refine W.p O.mv ?_
    refine W.p O.len ?_
    first | refine W.p O.addN ?_ | refine W.p O.add ?_
    refine W.p O.mv ?_
    refine W.p O.len ?_
    refine W.p O.min ?_
    refine W.p O.slcL ?_
    refine W.p O.as ?_
    refine WL.nil (Q.bn (Q.tn ?_))
    refine nextA (_, r, added, _, all, _, _, _) ?_ ?_
    · try dsimp only
      have hno : kfind ks (joinD (l :: r)) = none := by rw [← hleft, ← hkf]; cases hq : kfind all left with | none => rfl | some t => have h7 := kfind_ok hk (hkf ▸ hq); rw [hq] at hc3; exact absurd h7.1 hc3
      rw [putL_miss hno, if_neg hc4] at hput
      simp only [hg0, hrj]
      refine ⟨hok2, by trivial, hla.2, by omega, ?_, ?_, by omega, hall, ?_⟩
      · rw [hput, beb_one, byteOf_cast]; simp
      · rw [beb_one]; simp only [List.length_append, List.length_cons, List.length_nil]; omega
      · intro k hk5; have := hadd k hk5; omega
    · try dsimp only
      simp
  try simp only [sk] at hc2
  refine CW.exit (Q.te (Q.te (Q.bx (Q.tn ?_))))
  refine CW.seq ?_
  refine CW.region ?_
  refine W.p O.mv ?_
  refine W.p O.addS ?_
  refine W.p O.mv ?_
  refine W.p O.as ?_
  refine W.p O.as ?_
  refine W.p O.as ?_
  refine WL.nil (Q.tn ?_)
  refine CW.ret ?_
  refine ⟨_, rowL o 66 (flat encK all sp), (RVs.tmp rfl (RVs.tmp rfl (RVs.tmp rfl RVs.nil))), (by repeat (first | exact List.Sublist.refl _ | exact hSub _ | exact List.sublist_append_left _ _ | exact List.nil_sublist _ | refine List.Sublist.append (List.Sublist.refl _) ?_ | apply List.Sublist.cons_cons | apply List.Sublist.cons | exact List.sublist_append_left _ _ | refine List.Sublist.trans ?_ (List.sublist_append_right _ _))), ?_⟩
  have hnil : ls = [] := joinD_nil hla (hleft.symm.trans (by simpa using hc2))
  subst hnil
  rw [nmPut_ok hok, hput, putL_end]
  exact ⟨o, cc, sp, rfl, hok2, rfl⟩
theorem or_to {k m : Int} (h : 192 ≤ k ∧ k ≤ 255) (hm : 0 ≤ m ∧ m < 256) : bits .or .i64 (IntKind.i64.wrap ((k - 192) * 2 ^ (8 : Int).toNat)) m = k * 256 + m - 49152 := by
  have e8 : (2 : Int) ^ (8 : Int).toNat = 256 := by decide
  rw [e8, wrap_in _ (by omega), or_add 8 (by decide) (by omega) (by omega) (by omega) (by omega) (by omega)]
  omega
set_option maxRecDepth 100000 in
theorem ref_GetName (s : List UInt8) (p0 : Int) (w : World) (hs : s.length ≤ 4398046511104) : Fn Try.prog 51 [.string (S s), .int .i64 p0] w [] fun v L' => v = grV (getName s p0) ∧ L' = [] := by
  refine Fn.enter Try.func51 rfl rfl rfl rfl (Holds.nil w) ?_
  refine CW.seq ?_
  refine CW.region ?_
  refine W.p O.as ?_
  refine W.p O.as ?_
  refine W.p O.as ?_
  refine WL.nil (Q.tn ?_)
  refine CW.seq ?_
  refine CW.seq ?_
  refine CW.region ?_
  refine W.p O.mv ?_
  refine W.p O.lss ?_
  refine WL.nil (Q.tn ?_)
  refine CW.cond (vt rfl) (fun hc1 => ?_) (fun hc1 => ?_)
  · try simp only [sk] at hc1
    refine CW.seq ?_
    refine CW.region ?_
    refine W.p O.as ?_
    refine W.p O.as ?_
    refine W.p O.as ?_
    refine WL.nil (Q.tn ?_)
    refine CW.ret (Q.tr ?_)
    refine ⟨_, [], (RVs.tmp rfl (RVs.tmp rfl (RVs.tmp rfl RVs.nil))), List.nil_sublist _, ?_⟩
    refine ⟨?_, rfl⟩
    rw [getName_neg s hc1]; rfl
  try simp only [sk] at hc1
  refine CW.skip (Q.tn ?_)
  refine CW.seq ?_
  refine CW.region ?_
  refine W.p O.mv ?_
  refine W.p O.as ?_
  refine W.p O.as ?_
  refine W.p O.as ?_
  refine W.p O.as ?_
  refine WL.nil (Q.tn ?_)
  refine CW.block ?_
  refine CW.loopA (X := Int × Int × Int × Int × (List UInt8) × (List (List UInt8))) (fun ⟨p, r, f, k, nm, ls⟩ => [(0, true, .string (S s)), (1, true, .int .i64 p), (7, true, .string (S nm)), (8, true, .int .i64 r), (9, true, .int .i64 f), (10, true, .int .i64 k)]) (fun ⟨p, r, f, k, nm, ls⟩ => []) (fun ⟨p, r, f, k, nm, ls⟩ => 0 ≤ p ∧ nm = joinD ls ∧ k = ls.length ∧ ls.all labOk = true ∧ ls.length ≤ 8 ∧ (∀ x, Got s ⟨p, r, f, ls⟩ x → Got s (GS.of p0) x)) (fun ⟨p, r, f, k, nm, ls⟩ => measG s ⟨p, r, f, ls⟩) (p0, p0, -1, 0, [], []) ?_ ?_
  · exact ⟨by omega, rfl, rfl, rfl, by simp, fun _ h => h⟩
  rintro ⟨p, r, f, k, nm, ls⟩ hI
  try dsimp only at hI ⊢
  obtain ⟨h0, hnm, hk, hla, h8, hg⟩ := hI
  have hb := (s.getD p.toNat 0).toNat_lt
  have hb2 := (s.getD (p + 1).toNat 0).toNat_lt
  have hjl := joinD_len hla
  rw [← hnm] at hjl
  refine CW.block ?_
  refine CW.seq ?_
  refine CW.seq ?_
  refine CW.region ?_
  refine W.p O.mv ?_
  refine W.p O.mv ?_
  refine W.p O.len ?_
  refine W.p O.geq ?_
  refine WL.nil (Q.tn ?_)
  refine CW.cond (vt rfl) (fun hc2 => ?_) (fun hc2 => ?_)
  · try simp only [sk] at hc2
    refine CW.seq ?_
    refine CW.region ?_
    refine W.p O.as ?_
    refine W.p O.as ?_
    refine W.p O.as ?_
    refine WL.nil (Q.tn ?_)
    refine CW.ret (Q.tr (Q.br (Q.tr (Q.br ?_))))
    refine ⟨_, [], (RVs.tmp rfl (RVs.tmp rfl (RVs.tmp rfl RVs.nil))), List.nil_sublist _, ?_⟩
    refine ⟨?_, rfl⟩
    rw [getName_eq (by omega) (hg _ (Got.stop (sG1 hc2)))]; rfl
  try simp only [sk] at hc2
  refine CW.skip (Q.tn ?_)
  refine CW.seq ?_
  refine CW.region ?_
  refine W.p O.mv ?_
  refine W.p O.mv ?_
  first | refine W.p O.idxS ?_ | refine W.p (O.idxS (h := fun hg => by simp only [cond_true, cond_false, Bool.true_and, Bool.cond_false_right, Bool.cond_true_left, Bool.and_eq_true, Bool.or_eq_true, Bool.or_eq_false_iff, Bool.and_eq_false_iff, Bool.not_eq_true', Bool.not_eq_false', decide_eq_true_eq, decide_eq_false_iff_not, Int.reduceToNat] at *; omega)) ?_
  first | refine W.p O.cvB ?_ | refine W.p O.cv ?_
  refine W.p O.as ?_
  refine WL.nil (Q.tn ?_)
  refine CW.block ?_
  refine CW.seq ?_
  refine CW.region ?_
  refine W.p O.mv ?_
  refine W.p O.eqI ?_
  refine W.p O.as ?_
  refine WL.nil (Q.tn ?_)
  refine CW.cond (vt rfl) (fun hc3 => ?_) (fun hc3 => ?_)
  · try simp only [sk] at hc3
    refine CW.seq ?_
    refine CW.seq ?_
    refine CW.region ?_
    refine W.p O.mv ?_
    refine W.p O.lss ?_
    refine WL.nil (Q.tn ?_)
    refine CW.cond (vt rfl) (fun hc4 => ?_) (fun hc4 => ?_)
    · try simp only [sk] at hc4
      refine CW.region ?_
      refine W.p O.mv ?_
      first | refine W.p O.addN ?_ | refine W.p O.add ?_
      refine W.p O.as ?_
      refine WL.nil (Q.tn ?_)
      refine CW.seq ?_
      refine CW.region ?_
      refine W.p O.mv ?_
      refine W.p O.mv ?_
      refine W.p O.as ?_
      refine W.p O.as ?_
      refine W.p O.as ?_
      refine WL.nil (Q.tn ?_)
      refine CW.ret (Q.br (Q.br (Q.tr (Q.br ?_))))
      refine ⟨_, [], (RVs.tmp rfl (RVs.tmp rfl (RVs.tmp rfl RVs.nil))), List.nil_sublist _, ?_⟩
      refine ⟨?_, rfl⟩
      rw [getName_eq (by omega) (hg _ (Got.stop (sG2 hc2 hc3))), if_pos hc4, hnm]; rfl
    try simp only [sk] at hc4
    refine CW.skip (Q.tn ?_)
    refine CW.seq ?_
    refine CW.region ?_
    refine W.p O.mv ?_
    refine W.p O.mv ?_
    refine W.p O.as ?_
    refine W.p O.as ?_
    refine W.p O.as ?_
    refine WL.nil (Q.tn ?_)
    refine CW.ret (Q.br (Q.br (Q.tr (Q.br ?_))))
    refine ⟨_, [], (RVs.tmp rfl (RVs.tmp rfl (RVs.tmp rfl RVs.nil))), List.nil_sublist _, ?_⟩
    refine ⟨?_, rfl⟩
    rw [getName_eq (by omega) (hg _ (Got.stop (sG2 hc2 hc3))), if_neg hc4, hnm]; rfl
  try simp only [sk] at hc3
  refine CW.seq ?_
  refine CW.region ?_
  refine W.p O.mv ?_
  refine W.p O.leq ?_
  refine W.p O.as ?_
  refine WL.nil (Q.tn ?_)
  refine CW.cond (vt rfl) (fun hc5 => ?_) (fun hc5 => ?_)
  · try simp only [sk] at hc5
    refine CW.seq ?_
    refine CW.seq ?_
    refine CW.region ?_
    refine W.p O.mv ?_
    refine W.p O.len ?_
    refine W.p O.mv ?_
    first | refine W.p O.subN ?_ | refine W.p O.sub ?_
    first | refine W.p O.subN ?_ | refine W.p O.sub ?_
    refine W.p O.mv ?_
    refine W.p O.lss ?_
    refine WL.nil (Q.tn ?_)
    refine CW.cond (vt rfl) (fun hc6 => ?_) (fun hc6 => ?_)
    · try simp only [sk] at hc6
      refine CW.seq ?_
      refine CW.region ?_
      refine W.p O.as ?_
      refine W.p O.as ?_
      refine W.p O.as ?_
      refine WL.nil (Q.tn ?_)
      refine CW.ret (Q.tr (Q.br (Q.br (Q.tr (Q.br ?_)))))
      refine ⟨_, [], (RVs.tmp rfl (RVs.tmp rfl (RVs.tmp rfl RVs.nil))), List.nil_sublist _, ?_⟩
      refine ⟨?_, rfl⟩
      rw [getName_eq (by omega) (hg _ (Got.stop (sG3 hc2 hc3 hc5 hc6)))]; rfl
    try simp only [sk] at hc6
    refine CW.skip (Q.tn ?_)
    refine CW.seq ?_
    refine CW.region ?_
    refine W.p O.mv ?_
    refine W.p O.mv ?_
    first | refine W.p O.addN ?_ | refine W.p O.add ?_
    refine W.p O.mv ?_
    first | refine W.p O.addN ?_ | refine W.p O.add ?_
    refine W.p O.mv ?_
    first | refine W.p O.addN ?_ | refine W.p O.add ?_
    refine W.p O.slc ?_
    refine W.q (O.call ⟨rfl, rfl⟩ (AV.cons (vt rfl) (AV.nil)) (fun _ w hw => ref_Fold _ w (by simp only [List.length_drop, List.length_take]; omega))) ?_
    refine W.p O.as ?_
    refine WL.nil (Q.tn ?_)
    refine CW.seq ?_
    refine CW.region ?_
    refine W.p O.mv ?_
    first | refine W.p O.addN ?_ | refine W.p O.add ?_
    refine W.p O.as ?_
    refine WL.nil (Q.tn ?_)
    refine CW.seq ?_
    refine CW.seq ?_
    refine CW.region ?_
    refine W.p O.mv ?_
    refine W.q (O.call ⟨rfl, rfl⟩ (AV.cons (vt rfl) (AV.nil)) (fun _ w hw => ref_labelMay _ w (by simp only [fold, List.length_map, List.length_drop, List.length_take]; omega))) ?_
    refine W.p O.nt ?_
    refine W.p O.mv ?_
    refine W.p O.mv ?_
    refine W.p O.gtr ?_
    refine W.p O.pkB ?_
    refine WL.nil (Q.tn ?_)
    refine CW.cond (vt rfl) (fun hc7 => ?_) (fun hc7 => ?_)
    · try simp only [sk] at hc7
      have hlx : labOk (fold (slc s (p + 1) (p + 1 + ((s.getD p.toNat 0).toNat : Int)))) = false ∨ ls.length = 8 := by rcases hc7 with h | h; exact .inl h; exact .inr (by omega)
      refine CW.seq ?_
      refine CW.region ?_
      refine W.p O.as ?_
      refine W.p O.as ?_
      refine W.p O.as ?_
      refine WL.nil (Q.tn ?_)
      refine CW.ret (Q.tr (Q.br (Q.br (Q.tr (Q.br ?_)))))
      refine ⟨_, [], (RVs.tmp rfl (RVs.tmp rfl (RVs.tmp rfl RVs.nil))), List.nil_sublist _, ?_⟩
      refine ⟨?_, rfl⟩
      rw [getName_eq (by omega) (hg _ (Got.stop (sG4 hc2 hc3 hc5 hc6 hlx)))]; rfl
    try simp only [sk] at hc7
    have hlx : ¬ (labOk (fold (slc s (p + 1) (p + 1 + ((s.getD p.toNat 0).toNat : Int)))) = false ∨ ls.length = 8) := by rintro (h | h); (have h3 : labOk (fold (slc s (p + 1) (p + 1 + ((s.getD p.toNat 0).toNat : Int)))) = true := hc7.1); rw [h] at h3; cases h3; omega
    have htl := (labOk_len hc7.1).2
    have htl2 := htl
    simp only [List.getD_eq_getElem?_getD] at htl2
    have hG := sG5 (r := r) (f := f) hc2 hc3 hc5 hc6 hlx
    obtain ⟨g1, g2, g3, g4⟩ := stepG_lt hG h0 hla h8
    refine CW.skip (Q.tn ?_)
    refine CW.seq ?_
    refine CW.seq ?_
    refine CW.region ?_
    refine W.p O.mv ?_
    refine W.p O.neS ?_
    refine WL.nil (Q.tn ?_)
    refine CW.cond (vt rfl) (fun hc8 => ?_) (fun hc8 => ?_)
    · try simp only [sk] at hc8
      refine CW.region ?_
      refine W.p O.mv ?_
      refine W.p O.addS ?_
      refine W.p O.as ?_
      refine WL.nil (Q.tn ?_)
      refine CW.seq ?_
      refine CW.region ?_
      refine W.p O.mv ?_
      refine W.p O.mv ?_
      refine W.p O.addS ?_
      refine W.p O.as ?_
      refine WL.nil (Q.tn ?_)
      refine CW.region ?_
      refine W.p O.mv ?_
      first | refine W.p O.addN ?_ | refine W.p O.add ?_
      refine W.p O.mv ?_
      first | refine W.p O.addN ?_ | refine W.p O.add ?_
      refine W.p O.as ?_
      refine WL.nil (Q.bn (Q.bn (Q.tn ?_)))
      refine nextA (_, _, _, _, _, ls ++ [fold (slc s (p + 1) (p + 1 + ((s.getD p.toNat 0).toNat : Int)))]) ?_ ?_
      · try dsimp only
        refine ⟨g2, ?_, ?_, g3, g4, fun x hx => hg x (Got.step hG hx)⟩
        · rw [joinD_app (fun e => hc8 (by rw [hnm, e]; rfl)), hnm]; rfl
        · simp only [List.length_append, List.length_cons, List.length_nil]; omega
      · try dsimp only
        exact g1
    try simp only [sk] at hc8
    refine CW.skip (Q.tn ?_)
    refine CW.seq ?_
    refine CW.region ?_
    refine W.p O.mv ?_
    refine W.p O.mv ?_
    refine W.p O.addS ?_
    refine W.p O.as ?_
    refine WL.nil (Q.tn ?_)
    refine CW.region ?_
    refine W.p O.mv ?_
    first | refine W.p O.addN ?_ | refine W.p O.add ?_
    refine W.p O.mv ?_
    first | refine W.p O.addN ?_ | refine W.p O.add ?_
    refine W.p O.as ?_
    refine WL.nil (Q.bn (Q.bn (Q.tn ?_)))
    refine nextA (_, _, _, _, _, ls ++ [fold (slc s (p + 1) (p + 1 + ((s.getD p.toNat 0).toNat : Int)))]) ?_ ?_
    · try dsimp only
      have hnil : ls = [] := joinD_nil hla (hnm.symm.trans (by simpa using hc8))
      refine ⟨g2, ?_, ?_, g3, g4, fun x hx => hg x (Got.step hG hx)⟩
      · rw [hnm, hnil]; rfl
      · simp only [List.length_append, List.length_cons, List.length_nil]; omega
    · try dsimp only
      exact g1
  try simp only [sk] at hc5
  refine CW.seq ?_
  refine CW.region ?_
  refine W.p O.mv ?_
  refine W.p O.geq ?_
  refine W.p O.as ?_
  refine WL.nil (Q.tn ?_)
  refine CW.cond (vt rfl) (fun hc9 => ?_) (fun hc9 => ?_)
  · try simp only [sk] at hc9
    refine CW.seq ?_
    refine CW.seq ?_
    refine CW.region ?_
    refine W.p O.mv ?_
    refine W.p O.len ?_
    refine W.p O.mv ?_
    first | refine W.p O.subN ?_ | refine W.p O.sub ?_
    refine W.p O.lss ?_
    refine WL.nil (Q.tn ?_)
    refine CW.cond (vt rfl) (fun hc10 => ?_) (fun hc10 => ?_)
    · try simp only [sk] at hc10
      refine CW.seq ?_
      refine CW.region ?_
      refine W.p O.as ?_
      refine W.p O.as ?_
      refine W.p O.as ?_
      refine WL.nil (Q.tn ?_)
      refine CW.ret (Q.tr (Q.br (Q.br (Q.tr (Q.br ?_)))))
      refine ⟨_, [], (RVs.tmp rfl (RVs.tmp rfl (RVs.tmp rfl RVs.nil))), List.nil_sublist _, ?_⟩
      refine ⟨?_, rfl⟩
      rw [getName_eq (by omega) (hg _ (Got.stop (sG6 hc2 hc3 hc5 hc9 hc10)))]; rfl
    try simp only [sk] at hc10
    have hto := or_to (k := ((s.getD p.toNat 0).toNat : Int)) (m := ((s.getD (p + 1).toNat 0).toNat : Int)) (by omega) (by omega)
    refine CW.skip (Q.tn ?_)
    refine CW.seq ?_
    refine CW.region ?_
    refine W.p O.mv ?_
    first | refine W.p O.subN ?_ | refine W.p O.sub ?_
    refine W.p O.shl ?_
    refine W.p O.mv ?_
    refine W.p O.mv ?_
    first | refine W.p O.addN ?_ | refine W.p O.add ?_
    first | refine W.p O.idxS ?_ | refine W.p (O.idxS (h := fun hg => by simp only [cond_true, cond_false, Bool.true_and, Bool.cond_false_right, Bool.cond_true_left, Bool.and_eq_true, Bool.or_eq_true, Bool.or_eq_false_iff, Bool.and_eq_false_iff, Bool.not_eq_true', Bool.not_eq_false', decide_eq_true_eq, decide_eq_false_iff_not, Int.reduceToNat] at *; omega)) ?_
    first | refine W.p O.cvB ?_ | refine W.p O.cv ?_
    refine W.p O.or ?_
    refine W.p O.as ?_
    refine WL.nil (Q.tn ?_)
    refine CW.seq ?_
    refine CW.seq ?_
    refine CW.region ?_
    refine W.p O.mv ?_
    refine W.p O.mv ?_
    refine W.p O.geq ?_
    refine WL.nil (Q.tn ?_)
    refine CW.cond (vt rfl) (fun hc11 => ?_) (fun hc11 => ?_)
    · try simp only [sk] at hc11
      rw [hto] at hc11
      refine CW.seq ?_
      refine CW.region ?_
      refine W.p O.as ?_
      refine W.p O.as ?_
      refine W.p O.as ?_
      refine WL.nil (Q.tn ?_)
      refine CW.ret (Q.tr (Q.br (Q.br (Q.tr (Q.br ?_)))))
      refine ⟨_, [], (RVs.tmp rfl (RVs.tmp rfl (RVs.tmp rfl RVs.nil))), List.nil_sublist _, ?_⟩
      refine ⟨?_, rfl⟩
      rw [getName_eq (by omega) (hg _ (Got.stop (sG7 hc2 hc3 hc5 hc9 hc10 hc11)))]; rfl
    try simp only [sk] at hc11
    rw [hto] at hc11 ⊢
    have hG := sG8 (f := f) (ls := ls) hc2 hc3 hc5 hc9 hc10 hc11
    obtain ⟨g1, g2, g3, g4⟩ := stepG_lt hG h0 hla h8
    refine CW.skip (Q.tn ?_)
    refine CW.seq ?_
    refine CW.seq ?_
    refine CW.region ?_
    refine W.p O.mv ?_
    refine W.p O.lss ?_
    refine WL.nil (Q.tn ?_)
    refine CW.cond (vt rfl) (fun hc12 => ?_) (fun hc12 => ?_)
    · try simp only [sk] at hc12
      refine CW.region ?_
      refine W.p O.mv ?_
      first | refine W.p O.addN ?_ | refine W.p O.add ?_
      refine W.p O.as ?_
      refine WL.nil (Q.tn ?_)
      refine CW.seq ?_
      refine CW.region ?_
      refine W.p O.mv ?_
      refine W.p O.as ?_
      refine WL.nil (Q.tn ?_)
      refine CW.region ?_
      refine W.p O.mv ?_
      refine W.p O.as ?_
      refine WL.nil (Q.bn (Q.bn (Q.tn ?_)))
      refine nextA (_, _, _, _, _, ls) ?_ ?_
      · try dsimp only
        rw [if_pos hc12] at hG g1
        exact ⟨g2, hnm, hk, hla, h8, fun x hx => hg x (Got.step hG hx)⟩
      · try dsimp only
        rw [if_pos hc12] at g1; exact g1
    try simp only [sk] at hc12
    refine CW.skip (Q.tn ?_)
    refine CW.seq ?_
    refine CW.region ?_
    refine W.p O.mv ?_
    refine W.p O.as ?_
    refine WL.nil (Q.tn ?_)
    refine CW.region ?_
    refine W.p O.mv ?_
    refine W.p O.as ?_
    refine WL.nil (Q.bn (Q.bn (Q.tn ?_)))
    refine nextA (_, _, _, _, _, ls) ?_ ?_
    · try dsimp only
      rw [if_neg hc12] at hG g1
      exact ⟨g2, hnm, hk, hla, h8, fun x hx => hg x (Got.step hG hx)⟩
    · try dsimp only
      rw [if_neg hc12] at g1; exact g1
  try simp only [sk] at hc9
  refine CW.seq ?_
  refine CW.region ?_
  refine W.p O.as ?_
  refine W.p O.as ?_
  refine W.p O.as ?_
  refine WL.nil (Q.tn ?_)
  refine CW.ret (Q.br (Q.br (Q.tr (Q.br ?_))))
  refine ⟨_, [], (RVs.tmp rfl (RVs.tmp rfl (RVs.tmp rfl RVs.nil))), List.nil_sublist _, ?_⟩
  refine ⟨?_, rfl⟩
  rw [getName_eq (by omega) (hg _ (Got.stop (sG9 hc2 hc3 hc5 hc9)))]; rfl
end Go.Proofs.Ytkjcmdgideddnaa
