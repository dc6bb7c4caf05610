/- The statements over package zone: what is given, the sign of life. Condition: the library's table of powers of ten is as its text lays it. -/
import Derived.Test.YtagiajnpnjakhaaDoorLaw0C
import Derived.Test.YtagiajnpnjakhaaDoorZrC
set_option linter.unusedVariables false
set_option linter.unusedSimpArgs false
namespace Go.Proofs.YtagiajnpnjakhaaDoor
open Go Go.RowKit
theorem giv_sz : CfSz givC := ⟨by decide, by decide, by decide, by decide, by decide, by decide⟩
abbrev givH (b1 b2 b3 : Nat) : Heap := rowL (some b3) 51 (flat encR givC.stat []) ++ (rowL (some b2) 97 (flat encRs givC.resv []) ++ rowL (some b1) 3 (flat encI givC.excl []))
abbrev givV (b1 b2 b3 : Nat) : Value := vCf givC (oa (some b1), 1) (oa (some b2), 1) (oa (some b3), 1)
def GivR (v : Value) (L' : Heap) : Prop := ∃ b1 b2 b3, v = givV b1 b2 b3 ∧ L' = givH b1 b2 b3
set_option maxRecDepth 100000 in
theorem law20_given (w : World) : Fn Tryd.prog 28 [] w [] GivR := by
  refine Fn.enter Tryd.func28 rfl rfl rfl rfl (Holds.nil w) ?_
  refine CW.seq ?_
  refine CW.region ?_
  refine W.al rfl rfl fun b1 => ?_
  refine WL.nil (Q.tn ?_)
  refine CW.seq ?_
  refine CW.region ?_
  refine W.bs encI givC.excl rfl (PV.cons (vt rfl) (PV.nil)) rfl rfl rfl (by decide) rfl fun b2 => ?_
  refine W.p (O.bd (hv := PV.cons (vt rfl) (PV.cons (vt rfl) (PV.nil)))) ?_
  refine W.bs encRs givC.resv rfl (PV.cons (vt rfl) (PV.nil)) rfl rfl rfl (by decide) rfl fun b3 => ?_
  refine W.p (O.bd (hv := PV.cons (vt rfl) (PV.cons (vt rfl) (PV.cons (vt rfl) (PV.cons (vt rfl) (PV.nil)))))) ?_
  refine W.bs encR givC.stat rfl (PV.cons (vt rfl) (PV.nil)) rfl rfl rfl (by decide) rfl fun b4 => ?_
  refine W.p (O.bd (hv := PV.cons (vt rfl) (PV.cons (vt rfl) (PV.cons (vt rfl) (PV.cons (vt rfl) (PV.cons (vt rfl) (PV.cons (vt rfl) (PV.cons (vt rfl) (PV.nil))))))))) ?_
  refine W.st (vt rfl) (vt rfl) rfl ?_
  refine WL.nil (Q.tn ?_)
  refine CW.ret ?_
  refine ⟨_, givH b2 b3 b4, (RVs.cell rfl RVs.nil), (by repeat (first | exact List.Sublist.refl _ | exact hSub _ | exact List.sublist_append_left _ _ | exact List.nil_sublist _ | refine List.Sublist.append (List.Sublist.refl _) ?_ | apply List.Sublist.cons_cons | apply List.Sublist.cons | exact List.sublist_append_left _ _ | refine List.Sublist.trans ?_ (List.sublist_append_right _ _))), ?_⟩
  exact ⟨b2, b3, b4, rfl, rfl⟩
def livL : List Lz := [⟨10, 2, [109, 101], 9, [112, 99], true⟩]
theorem liv_sz : LsSz livL := ⟨by decide, by decide, by decide⟩
theorem nil_sz : LsSz [] := ⟨by decide, by simp, by simp⟩
def livW : List RR := [⟨[108, 97, 110], 6, 60, 0, [110, 115, 46, 108, 97, 110], [], 7⟩, ⟨[108, 97, 110], 2, 60, 0, [110, 115, 46, 108, 97, 110], [], 0⟩, givC.stat.getD 0 dR, ⟨[112, 99, 46, 108, 97, 110], 1, 60, 167772170, [], [], 0⟩, ⟨[112, 99, 46, 108, 97, 110], 49, 60, 0, [], dhcid [109, 101] [112, 99, 46, 108, 97, 110], 0⟩, ⟨[49, 48, 46, 48, 46, 48, 46, 49, 48, 46, 105, 110, 45, 97, 100, 100, 114, 46, 97, 114, 112, 97], 12, 60, 0, [112, 99, 46, 108, 97, 110], [], 0⟩]
theorem live_z : zRec givC livL 0 7 = (livW, 0) ∧ zChg givC livL [] 0 0 = (true, 0) ∧ zChg givC livL [] 9 0 = (false, 0) ∧ (zRec givC livL (-1) 7).2 = 2000 := by decide +kernel
set_option maxRecDepth 100000 in
theorem law20_awake (w : World) (ht : Tab10 w) : Fn Tryd.prog 23 [] w [] fun v L' => v = .bool true ∧ L' = [] := by
  have hgs : givC.stat.length = 1 := rfl
  refine Fn.enter Tryd.func23 rfl rfl rfl rfl (Holds.nil w) ?_
  refine CW.seq ?_
  refine CW.region ?_
  refine W.p O.as ?_
  refine WL.nil (Q.tn ?_)
  refine CW.seq ?_
  refine CW.region ?_
  refine W.callN (first := []) (cap := []) rfl (vt rfl) (AV.nil) (fun w hu => law20_given w) ?_; rintro _ _ ⟨g1, g2, g3, rfl, rfl⟩
  refine W.al rfl rfl fun b1 => ?_
  refine W.st (vt rfl) (vt rfl) rfl ?_
  refine WL.nil (Q.tn ?_)
  refine CW.seq ?_
  refine CW.region ?_
  refine W.p (O.bd (hv := PV.cons (vt rfl) (PV.cons (vt rfl) (PV.cons (vt rfl) (PV.cons (vt rfl) (PV.cons (vt rfl) (PV.cons (vt rfl) (PV.nil)))))))) ?_
  refine W.bs encL livL rfl (PV.cons (vt rfl) (PV.nil)) rfl rfl rfl (by decide) rfl fun b2 => ?_
  refine W.p O.as ?_
  refine WL.nil (Q.tn ?_)
  refine CW.seq ?_
  refine CW.region ?_
  refine W.p O.lds ?_
  refine W.p O.mv ?_
  refine W.callN (first := []) (cap := []) rfl (vt rfl) (AV.cons (vt rfl) (AV.cons (vt rfl) (AV.cons (vt rfl) (AV.cons (vt rfl) (AV.nil))))) (fun w hu => zn_Records givC (oa (some g1), 1) (oa (some g2), 1) (oa (some g3), 1) livL (oa (some b2)) 1 0 7 w (CfIn.mk (RowL.h (enc := encI) (xs := givC.excl) (a := oa (some g1)) _ hu) (RowL.h (enc := encRs) (xs := givC.resv) (a := oa (some g2)) _ hu) (RowL.h (enc := encR) (xs := givC.stat) (a := oa (some g3)) _ hu)) giv_sz (RowL.h (enc := encL) (xs := livL) (a := oa (some b2)) _ hu) liv_sz (by decide) (ht.upd hu)) ?_; rintro _ _ ⟨o11, c11, p11, rfl, ok11, rfl⟩; have nk11 := ok11.nk (α := RR) (xs := (zRec givC livL 0 7).1)
  refine W.p O.mv ?_
  first | refine W.p O.extL ?_ | refine W.p O.ext ?_
  first | refine W.p O.extL ?_ | refine W.p O.ext ?_
  refine W.p O.as ?_
  refine W.p O.as ?_
  refine WL.nil (Q.tn ?_)
  refine CW.seq ?_
  refine CW.region ?_
  refine W.p O.lds ?_
  refine W.p O.mv ?_
  refine W.q (O.call ⟨rfl, rfl⟩ (AV.cons (vt rfl) (AV.cons (vt rfl) (AV.cons (vt rfl) (AV.cons (vt rfl) (AV.cons (vt rfl) (AV.nil)))))) (fun _ w hw => zn_Changed givC (oa (some g1), 1) (oa (some g2), 1) (oa (some g3), 1) livL [] (oa (some b2)) none 1 0 0 0 w (CfIn.mk (RowL.h (enc := encI) (xs := givC.excl) (a := oa (some g1)) _ hw) (RowL.h (enc := encRs) (xs := givC.resv) (a := oa (some g2)) _ hw) (RowL.h (enc := encR) (xs := givC.stat) (a := oa (some g3)) _ hw)) giv_sz (RowL.h (enc := encL) (xs := livL) (a := oa (some b2)) _ hw) liv_sz In.nil nil_sz (ht.upd hw))) ?_
  refine W.p O.mv ?_
  first | refine W.p O.extL ?_ | refine W.p O.ext ?_
  first | refine W.p O.extL ?_ | refine W.p O.ext ?_
  refine W.p O.as ?_
  refine W.p O.as ?_
  refine WL.nil (Q.tn ?_)
  refine CW.seq ?_
  refine CW.region ?_
  refine W.p O.lds ?_
  refine W.p O.mv ?_
  refine W.q (O.call ⟨rfl, rfl⟩ (AV.cons (vt rfl) (AV.cons (vt rfl) (AV.cons (vt rfl) (AV.cons (vt rfl) (AV.cons (vt rfl) (AV.nil)))))) (fun _ w hw => zn_Changed givC (oa (some g1), 1) (oa (some g2), 1) (oa (some g3), 1) livL [] (oa (some b2)) none 1 0 9 0 w (CfIn.mk (RowL.h (enc := encI) (xs := givC.excl) (a := oa (some g1)) _ hw) (RowL.h (enc := encRs) (xs := givC.resv) (a := oa (some g2)) _ hw) (RowL.h (enc := encR) (xs := givC.stat) (a := oa (some g3)) _ hw)) giv_sz (RowL.h (enc := encL) (xs := livL) (a := oa (some b2)) _ hw) liv_sz In.nil nil_sz (ht.upd hw))) ?_
  refine W.p O.mv ?_
  first | refine W.p O.extL ?_ | refine W.p O.ext ?_
  first | refine W.p O.extL ?_ | refine W.p O.ext ?_
  refine W.p O.as ?_
  refine W.p O.as ?_
  refine WL.nil (Q.tn ?_)
  refine CW.seq ?_
  refine CW.region ?_
  refine W.p O.lds ?_
  refine W.p O.mv ?_
  refine W.callN (first := []) (cap := []) rfl (vt rfl) (AV.cons (vt rfl) (AV.cons (vt rfl) (AV.cons (vt rfl) (AV.cons (vt rfl) (AV.nil))))) (fun w hu => zn_Records givC (oa (some g1), 1) (oa (some g2), 1) (oa (some g3), 1) livL (oa (some b2)) 1 (-1) 7 w (CfIn.mk (RowL.h (enc := encI) (xs := givC.excl) (a := oa (some g1)) _ hu) (RowL.h (enc := encRs) (xs := givC.resv) (a := oa (some g2)) _ hu) (RowL.h (enc := encR) (xs := givC.stat) (a := oa (some g3)) _ hu)) giv_sz (RowL.h (enc := encL) (xs := livL) (a := oa (some b2)) _ hu) liv_sz (by decide) (ht.upd hu)) ?_; rintro _ _ ⟨o12, c12, p12, rfl, ok12, rfl⟩
  refine W.p O.mv ?_
  first | refine W.p O.extL ?_ | refine W.p O.ext ?_
  first | refine W.p O.extL ?_ | refine W.p O.ext ?_
  refine W.p O.as ?_
  refine W.p O.as ?_
  refine WL.nil (Q.tn ?_)
  refine CW.seq ?_
  refine CW.region ?_
  refine W.q (O.call ⟨rfl, rfl⟩ (AV.cons (vt rfl) (AV.cons (vt rfl) (AV.nil))) (fun _ w hw => ref_Dhcid [109, 101] [112, 99, 46, 108, 97, 110] w (by decide) (by decide))) ?_
  refine W.p O.mv ?_
  first | refine W.p O.extL ?_ | refine W.p O.ext ?_
  first | refine W.p O.extL ?_ | refine W.p O.ext ?_
  refine W.p O.as ?_
  refine W.p O.as ?_
  refine WL.nil (Q.tn ?_)
  refine CW.seq ?_
  refine CW.region ?_
  refine W.p (O.bd (hv := PV.cons (vt rfl) (PV.cons (vt rfl) (PV.cons (vt rfl) (PV.cons (vt rfl) (PV.cons (vt rfl) (PV.nil))))))) ?_
  refine W.p (O.bd (hv := PV.cons (vt rfl) (PV.cons (vt rfl) (PV.cons (vt rfl) (PV.cons (vt rfl) (PV.nil)))))) ?_
  first | refine W.p O.fb ?_ | refine W.p O.fa ?_
  refine W.p O.ld ?_
  refine W.p O.ixA ?_
  refine W.p O.ldsE ?_
  refine W.p (O.bd (hv := PV.cons (vt rfl) (PV.cons (vt rfl) (PV.cons (vt rfl) (PV.cons (vt rfl) (PV.nil)))))) ?_
  refine W.p O.mv ?_
  refine W.p (O.bd (hv := PV.cons (vt rfl) (PV.cons (vt rfl) (PV.cons (vt rfl) (PV.cons (vt rfl) (PV.nil)))))) ?_
  refine W.p (O.bd (hv := PV.cons (vt rfl) (PV.cons (vt rfl) (PV.cons (vt rfl) (PV.cons (vt rfl) (PV.nil)))))) ?_
  refine W.bs encR livW rfl (PV.cons (vt rfl) (PV.cons (vt rfl) (PV.cons (vt rfl) (PV.cons (vt rfl) (PV.cons (vt rfl) (PV.cons (vt rfl) (PV.nil))))))) rfl rfl rfl (by decide) rfl fun b3 => ?_
  refine W.p O.as ?_
  refine WL.nil (Q.tn ?_)
  refine CW.seq ?_
  refine CW.region ?_
  refine W.p O.mv ?_
  refine W.p O.mv ?_
  refine W.q (O.call ⟨rfl, rfl⟩ (AV.cons (vt rfl) (AV.cons (vt rfl) (AV.nil))) (fun _ w hw => sameRRs (zRec givC livL 0 7).1 livW _ _ _ _ w (RowL.h (enc := encR) (xs := (zRec givC livL 0 7).1) (a := oa o11) _ hw) (RowL.h (enc := encR) (xs := livW) (a := oa (some b3)) _ hw) (by rw [live_z.1]; decide))) ?_
  refine W.p O.mv ?_
  refine W.p O.mv ?_
  refine W.q (O.call ⟨rfl, rfl⟩ (AV.cons (vs rfl) (AV.nil)) (fun _ w hw => law0_Num _ w)) ?_
  refine W.p O.eqI ?_
  refine W.p O.pkB ?_
  refine W.p O.mv ?_
  refine W.p O.mv ?_
  refine W.p O.pkB ?_
  refine W.p O.mv ?_
  refine W.p O.mv ?_
  refine W.q (O.call ⟨rfl, rfl⟩ (AV.cons (vs rfl) (AV.nil)) (fun _ w hw => law0_Num _ w)) ?_
  refine W.p O.eqI ?_
  refine W.p O.pkB ?_
  refine W.p O.mv ?_
  refine W.p O.mv ?_
  refine W.p O.nt ?_
  refine W.p O.pkB ?_
  refine W.p O.mv ?_
  refine W.p O.mv ?_
  refine W.q (O.call ⟨rfl, rfl⟩ (AV.cons (vs rfl) (AV.nil)) (fun _ w hw => law0_Num _ w)) ?_
  refine W.p O.eqI ?_
  refine W.p O.pkB ?_
  refine W.p O.mv ?_
  refine W.p O.mv ?_
  refine W.q (O.call ⟨rfl, rfl⟩ (AV.cons (vs rfl) (AV.nil)) (fun _ w hw => law0_Num _ w)) ?_
  refine W.p O.eqI ?_
  refine W.p O.pkB ?_
  refine W.p O.as ?_
  refine WL.nil (Q.tn ?_)
  refine CW.ret ?_
  refine ⟨_, [], (RVs.tmp rfl RVs.nil), List.nil_sublist _, ?_⟩
  refine ⟨congrArg Value.bool ?_, rfl⟩
  rw [live_z.1, live_z.2.1, live_z.2.2.1, live_z.2.2.2]; simp
end Go.Proofs.YtagiajnpnjakhaaDoor
