/- The statements over package answer: what is given, what is asked, the sign of life. Condition: the library's table of powers of ten is as its text lays it. -/
import Derived.Test.YtfmdaijkgjkmpaaGreatDoorPAns
import Derived.Test.YtfmdaijkgjkmpaaGreatDoorAnE
import Derived.Test.YtfmdaijkgjkmpaaGreatDoorLaw0L
set_option linter.unusedVariables false
set_option linter.unusedSimpArgs false
namespace Go.Proofs.YtfmdaijkgjkmpaaGreatDoor
open Go Go.RowKit
theorem g21_sz : CfSz givC := ⟨by decide, by decide, by decide, by decide, by decide, by decide⟩
theorem n21_sz : LsSz [] := ⟨by decide, by simp, by simp⟩
abbrev g21H (b1 b2 b3 : Nat) : Heap := rowL (some b3) 58 (flat encR givC.stat []) ++ (rowL (some b2) 107 (flat encRs givC.resv []) ++ rowL (some b1) 3 (flat encI givC.excl []))
abbrev g21V (b1 b2 b3 : Nat) : Value := vCf givC (oa (some b1), 1) (oa (some b2), 1) (oa (some b3), 1)
def G21R (v : Value) (L' : Heap) : Prop := ∃ b1 b2 b3, v = g21V b1 b2 b3 ∧ L' = g21H b1 b2 b3
set_option maxRecDepth 100000 in
theorem law21_given (w : World) : Fn Tryz.prog 28 [] w [] G21R := by
 refine Fn.enter Tryz.func28 rfl rfl rfl rfl (Holds.nil w) ?_
 refine W.go ?_
 refine W.al rfl rfl fun b1 => ?_
 refine WL.nil (Q.tn ?_)
 refine CW.seq ?_
 refine CW.region ?_
 refine W.bs encI givC.excl rfl (PV.cons (vt rfl) (PV.nil)) rfl rfl rfl (by decide) rfl fun b2 => ?_
 refine W.p (O.bd (hv := PV.cons (vt rfl) (PV.cons (vt rfl) (PV.nil)))) ?_
 refine W.bs encRs givC.resv rfl (PV.cons (vt rfl) (PV.nil)) rfl rfl rfl (by decide) rfl fun b3 => ?_
 refine W.p (O.bd (hv := PV.cons (vt rfl) (PV.cons (vt rfl) (PV.cons (vt rfl) (PV.cons (vt rfl) (PV.nil)))))) ?_
 refine W.bs encR givC.stat rfl (PV.cons (vt rfl) (PV.nil)) rfl rfl rfl (by decide) rfl fun b4 => ?_
 refine W.p (O.bd (hv := PV.cons (vt rfl) (PV.cons (vt rfl) (PV.cons (vt rfl) (PV.cons (vt rfl) (PV.cons (vt rfl) (PV.cons (vt rfl) (PV.cons (vt rfl) (PV.nil))))))))) ?_
 refine W.st (vt rfl) (vt rfl) rfl ?_
 refine W.go ?_
 refine ⟨_, g21H b2 b3 b4, (RVs.cell rfl RVs.nil), (by repeat (first | exact List.Sublist.refl _ | exact hSub _ | exact List.sublist_append_left _ _ | exact List.nil_sublist _ | refine List.Sublist.append (List.Sublist.refl _) ?_ | apply List.Sublist.cons_cons | apply List.Sublist.cons | exact List.sublist_append_left _ _ | refine List.Sublist.trans ?_ (List.sublist_append_right _ _))), ?_⟩
 exact ⟨b2, b3, b4, rfl, rfl⟩
set_option maxRecDepth 100000 in
theorem law21_asked (id : Int) (nm : List UInt8) (k : Int) (w : World) (hn : nm.length ≤ 1048576) : Fn Tryz.prog 25 [.int .i64 id, .string (S nm), .int .i64 k] w [] fun v L' => v = .string (S (dnPut (askD (id % 65536) nm k false 0) 512).1) ∧ L' = [] := by
 refine Fn.enter Tryz.func25 rfl rfl rfl rfl (Holds.nil w) ?_
 refine W.go ?_
 refine W.p (O.andM 16 65536 (h := by decide) (hq := by decide) (hM := by decide)) ?_
 refine W.go ?_
 refine W.p (O.bd (hv := PV.cons (vt rfl) (PV.cons (vt rfl) (PV.nil)))) ?_
 refine W.bs encQ [⟨nm, k⟩] rfl (PV.cons (vt rfl) (PV.nil)) rfl rfl rfl (by decide) rfl fun b1 => ?_
 refine W.p (O.bd (hv := PV.cons (vt rfl) (PV.cons (vt rfl) (PV.nil)))) ?_
 refine W.q (O.call ⟨rfl, rfl⟩ (AV.cons (vt rfl) (AV.cons (vt rfl) (AV.nil))) (fun _ w hw => ref_PutDns (askD (id % 65536) nm k false 0) (oa (some b1), 1) nS nS nS 512 w ⟨RowL.h (enc := encQ) (xs := [⟨nm, k⟩]) (a := oa (some b1)) _ hw, In.nil, In.nil, In.nil⟩ (dsz_of ⟨by simp [askD], fun q hq => by simp only [askD, List.mem_singleton] at hq; subst hq; dsimp only; omega⟩ nmb_nil nmb_nil rfl))) ?_
 refine W.go ?_
 refine ⟨_, [], (RVs.tmp rfl RVs.nil), List.nil_sublist _, ?_⟩
 exact ⟨rfl, rfl⟩
def cf0 : Cf := ⟨0, 0, [], [], 0, [], []⟩
theorem cf0_sz : CfSz cf0 := ⟨by decide, by decide, by decide, by decide, by decide, by decide⟩
theorem a1T_len : a1T.length ≤ 1048576 ∧ (ansP givC [] 0 1 a1T).1.length ≤ 1048576 ∧ ansP cf0 [] 0 1 [] = ([], false, 2100) := by decide +kernel
theorem asked7 (w : World) : Fn Tryz.prog 25 [.int .i64 7, .string (S wQ), .int .i64 1] w [] fun v L' => v = .string (S a1T) ∧ L' = [] := by
 have h := law21_asked 7 wQ 1 w (by decide)
 rw [show (7 : Int) % 65536 = 7 by decide] at h
 exact h
set_option maxRecDepth 100000 in
theorem law21_awake (w : World) (ht : Tab10 w) : Fn Tryz.prog 22 [] w [] fun v L' => v = .bool true ∧ L' = [] := by
 have hlk : (look [] ⟨[120, 46, 99, 111, 109], 1⟩ lanN).2.1.length = 0 ∧ (look [] ⟨[120, 46, 99, 111, 109], 1⟩ lanN).2.2.length = 0 := by rw [aw_21.2.2.2.2.2.2.2.2]; exact ⟨rfl, rfl⟩
 refine Fn.enter Tryz.func22 rfl rfl rfl rfl (Holds.nil w) ?_
 refine W.go ?_
 refine W.callN (first := []) (cap := []) rfl (vt rfl) (AV.nil) (fun w hu => law21_given w) ?_; rintro _ _ ⟨g1, g2, g3, rfl, rfl⟩
 refine W.al rfl rfl fun b1 => ?_
 refine W.st (vt rfl) (vt rfl) rfl ?_
 refine W.go ?_
 refine CW.drawH ((b1, .cells (encCf givC (oa (some g1), 1) (oa (some g2), 1) (oa (some g3), 1)).toArray 26 (0, 0)) :: g21H g1 g2 g3) rfl ?_
 refine RH.qa 0 rfl (O.lds) ?_
 refine RH.one (i := 1) (fun _ _ h => h) (by kernel_rfl) rfl ?_
 refine W.q (O.call ⟨rfl, rfl⟩ (AV.cons (vt rfl) (AV.cons (vt rfl) (AV.cons (vt rfl) (AV.nil)))) (fun _ w hw => asked7 w)) ?_
 refine WL.nilQa ?_
 refine RH.one (i := 2) (fun _ _ h => h) (by kernel_rfl) rfl ?_
 refine W.q (O.call ⟨rfl, rfl⟩ (AV.cons (vt rfl) (AV.cons (vt rfl) (AV.cons (vt rfl) (AV.cons (vt rfl) (AV.cons (vt rfl) (AV.nil)))))) (fun _ w hw => an_Answer givC (oa (some g1), 1) (oa (some g2), 1) (oa (some g3), 1) [] none 0 0 1 a1T w (CfIn.mk (RowL.h (enc := encI) (xs := givC.excl) (a := oa (some g1)) _ hw) (RowL.h (enc := encRs) (xs := givC.resv) (a := oa (some g2)) _ hw) (RowL.h (enc := encR) (xs := givC.stat) (a := oa (some g3)) _ hw)) g21_sz In.nil n21_sz ⟨by decide, by decide⟩ a1T_len.1 (ht.upd hw))) ?_
 refine WL.nilQa ?_
 refine RH.qa 3 rfl (O.mv) ?_
 first | refine RH.qa 4 rfl (O.extL) ?_ | refine RH.qa 4 rfl (O.ext) ?_
 first | refine RH.qa 5 rfl (O.extL) ?_ | refine RH.qa 5 rfl (O.ext) ?_
 first | refine RH.qa 6 rfl (O.extL) ?_ | refine RH.qa 6 rfl (O.ext) ?_
 refine RH.qa 7 rfl (O.as) ?_
 refine RH.qa 8 rfl (O.as) ?_
 refine RH.qa 9 rfl (O.as) ?_
 refine RH.done (by kernel_rfl) (Q.tn ?_)
 refine W.go ?_
 refine W.callN (first := []) (cap := []) rfl (vt rfl) (AV.cons (vt rfl) (AV.nil)) (fun w hu => ref_GetDns (ansP givC [] 0 1 a1T).1 w (Nat.le_trans a1T_len.2.1 (by decide))) ?_; rintro _ _ ⟨o41, c41, p41, o42, c42, p42, o43, c43, p43, o44, c44, p44, rfl, ok41, ok42, ok43, ok44, rfl⟩; have nk42 := ok42.nk (α := RR) (xs := (dnGet (ansP givC [] 0 1 a1T).1).1.an)
 refine W.go ?_
 refine W.al rfl rfl fun b2 => ?_
 refine W.st (vt rfl) (vt rfl) rfl ?_
 refine W.go ?_
 refine W.q (O.call ⟨rfl, rfl⟩ (AV.cons (vt rfl) (AV.cons (vt rfl) (AV.cons (vt rfl) (AV.cons (vt rfl) (AV.cons (vt rfl) (AV.nil)))))) (fun _ w hw => an_Answer givC (oa (some g1), 1) (oa (some g2), 1) (oa (some g3), 1) [] none 0 0 1 [115, 104, 111, 114, 116] w (CfIn.mk (RowL.h (enc := encI) (xs := givC.excl) (a := oa (some g1)) _ hw) (RowL.h (enc := encRs) (xs := givC.resv) (a := oa (some g2)) _ hw) (RowL.h (enc := encR) (xs := givC.stat) (a := oa (some g3)) _ hw)) g21_sz In.nil n21_sz ⟨by decide, by decide⟩ (by decide) (ht.upd hw))) ?_
 refine W.go ?_
 refine W.q (O.call ⟨rfl, rfl⟩ (AV.cons (vt rfl) (AV.cons (vt rfl) (AV.cons (vt rfl) (AV.cons (vt rfl) (AV.cons (vt rfl) (AV.nil)))))) (fun _ w hw => an_Answer givC (oa (some g1), 1) (oa (some g2), 1) (oa (some g3), 1) [] none 0 0 1 [1, 2, 0, 0, 0, 1, 0, 0, 0, 0, 0, 0] w (CfIn.mk (RowL.h (enc := encI) (xs := givC.excl) (a := oa (some g1)) _ hw) (RowL.h (enc := encRs) (xs := givC.resv) (a := oa (some g2)) _ hw) (RowL.h (enc := encR) (xs := givC.stat) (a := oa (some g3)) _ hw)) g21_sz In.nil n21_sz ⟨by decide, by decide⟩ (by decide) (ht.upd hw))) ?_
 refine W.go ?_
 refine W.p (O.bd (hv := PV.cons (vt rfl) (PV.cons (vt rfl) (PV.nil)))) ?_
 refine W.callN (first := []) (cap := []) rfl (vt rfl) (AV.cons (vt rfl) (AV.cons (vt rfl) (AV.cons (vt rfl) (AV.nil)))) (fun w hu => an_Look [] none 0 ⟨[120, 46, 99, 111, 109], 1⟩ lanN w In.nil (by decide) (fun r hr => by cases hr) (by decide) (by decide)) ?_; rintro _ _ ⟨o51, c51, p51, o52, c52, p52, rfl, nk51, nk52, rfl⟩
 refine W.go ?_
 refine W.p (O.bd (hv := PV.nil)) ?_
 refine W.q (O.call ⟨rfl, rfl⟩ (AV.cons (vt rfl) (AV.cons (vt rfl) (AV.cons (vt rfl) (AV.cons (vt rfl) (AV.cons (vt rfl) (AV.nil)))))) (fun _ w hw => an_Answer cf0 (none, 0) (none, 0) (none, 0) [] none 0 0 1 [] w ⟨In.nil, In.nil, In.nil⟩ cf0_sz In.nil n21_sz ⟨by decide, by decide⟩ (by decide) (ht.upd hw))) ?_
 refine W.go ?_
 refine W.q (O.call ⟨rfl, rfl⟩ (AV.cons (vs rfl) (AV.nil)) (fun _ w hw => law0_Num _ w)) ?_
 refine W.go ?_
 refine W.q (O.call ⟨rfl, rfl⟩ (AV.cons (vs rfl) (AV.cons (vs rfl) (AV.nil))) (fun _ w hw => sameRRs (dnGet (ansP givC [] 0 1 a1T).1).1.an givC.stat _ _ _ _ w (RowL.h (enc := encR) (xs := (dnGet (ansP givC [] 0 1 a1T).1).1.an) (a := oa o42) _ hw) (RowL.h (enc := encR) (xs := givC.stat) (a := oa (some g3)) _ hw) (by rw [aw_21.2.2.2.2.2.1]; decide))) ?_
 refine W.go ?_
 refine W.q (O.call ⟨rfl, rfl⟩ (AV.cons (vs rfl) (AV.nil)) (fun _ w hw => law0_Num _ w)) ?_
 refine W.go ?_
 refine W.q (O.call ⟨rfl, rfl⟩ (AV.cons (vs rfl) (AV.nil)) (fun _ w hw => law0_Num _ w)) ?_
 refine W.go ?_
 refine W.q (O.call ⟨rfl, rfl⟩ (AV.cons (vs rfl) (AV.nil)) (fun _ w hw => law0_Num _ w)) ?_
 refine W.go ?_
 refine ⟨_, [], (RVs.tmp rfl RVs.nil), List.nil_sublist _, ?_⟩
 refine ⟨congrArg Value.bool ?_, rfl⟩
 obtain ⟨e1, e2, e3, e4, e5, e6, e7, e8, e9⟩ := aw_21
 rw [e1, e2, e3, e4, e5, e6, e7, e8, e9, a1T_len.2.2]
 simp
end Go.Proofs.YtfmdaijkgjkmpaaGreatDoor
