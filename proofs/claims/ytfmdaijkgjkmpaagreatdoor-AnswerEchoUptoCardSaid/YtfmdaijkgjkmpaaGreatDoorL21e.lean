/- The statement AnswerEcho: its walk. Condition: what comes in is not longer than a million; the library's table of powers of ten is as its text lays it. -/
import Derived.Test.YtfmdaijkgjkmpaaGreatDoorL21
set_option linter.unusedVariables false
set_option linter.unusedSimpArgs false
namespace Go.Proofs.YtfmdaijkgjkmpaaGreatDoor
open Go Go.RowKit
theorem ans_lenE {c : Cf} {ls : List Lz} {now : Int} {t : List UInt8} : (ansP c ls now 1 t).1.length ≤ 1200 := by
 cases hb : (ansP c ls now 1 t).2.1 with
 | true => obtain ⟨m, _, _, h, _⟩ := ans_never hb; exact h
 | false => rw [(ans_no (.inr hb)).1]; decide
theorem put_askE {id : Int} {nm : List UInt8} {k : Int} {r : Bool} {sz : Int} : (dnPut (askD id nm k r sz) 512).1.length ≤ 1048576 := by
 cases h : dnMay (askD id nm k r sz) with
 | true => rw [ask_put h]; have := short_len h rfl; dsimp only; omega
 | false => rw [put_no h]; decide
/-- what comes back says what was asked -/
theorem echo_got {id : Int} {nm : List UInt8} {k : Int} {r : Bool} {sz : Int} (h : (dnPut (askD id nm k r sz) 512).2 = 0) :
  ∃ m, (ansP givC [] 0 1 (dnPut (askD id nm k r sz) 512).1).2 = (true, 0) ∧ dnGet (ansP givC [] 0 1 (dnPut (askD id nm k r sz) 512).1).1 = (m, 0) ∧ m.id = id ∧ m.recu = r ∧ m.qs = [⟨nm, k⟩] ∧ m.resp = true ∧ m.op = 0 ∧ m.size = (if 0 < sz then 512 else 0) ∧ m.ad = [] := by
 have hm := put_may h
 rw [ask_put hm]
 obtain ⟨m, e1, e2, _, e4⟩ := ask_got (c := givC) (ls := []) (now := 0) (n := 1) giv_ask hm
 refine ⟨m, e1, e2, ?_⟩
 rw [reply_ask] at e4
 rcases e4 with rfl | rfl
 ·exact ⟨rfl, rfl, rfl, rfl, rfl, rfl, rfl⟩
 ·exact ⟨rfl, rfl, rfl, rfl, rfl, rfl, rfl⟩
set_option maxHeartbeats 2000000 in
set_option maxRecDepth 100000 in
theorem law21_AnswerEcho (id : Int) (nm : List UInt8) (k : Int) (r : Bool) (size : Int) (w : World) (hn : nm.length ≤ 1048576) (ht : Tab10 w) : Fn Tryz.prog 6 [.int .i64 id, .string (S nm), .int .i64 k, .bool r, .int .i64 size] w [] fun v L' => v = .bool true ∧ L' = [] := by
 refine Fn.enter Tryz.func6 rfl rfl rfl rfl (Holds.nil w) ?_
 refine W.go ?_
 refine W.q (O.call ⟨rfl, rfl⟩ (AV.nil) (fun _ w hw => law21_awake w (ht.upd hw))) ?_
 refine W.go ?_
 refine CW.cond (vt rfl) (fun hc1 => ?_) (fun hc1 => ?_)
 ·exfalso; simp at hc1
 try simp only [sk] at hc1
 refine W.go ?_
 refine W.p (O.andM 16 65536 (h := by decide) (hq := by decide) (hM := by decide)) ?_
 refine W.go ?_
 refine W.p (O.andM 8 256 (h := by decide) (hq := by decide) (hM := by decide)) ?_
 refine W.p (O.bd (hv := PV.cons (vt rfl) (PV.cons (vt rfl) (PV.nil)))) ?_
 refine W.bs encQ [⟨nm, (k % 256)⟩] rfl (PV.cons (vt rfl) (PV.nil)) rfl rfl rfl (by decide) rfl fun b1 => ?_
 refine W.p (O.bd (hv := PV.cons (vt rfl) (PV.cons (vt rfl) (PV.cons (vt rfl) (PV.nil))))) ?_
 refine W.al rfl rfl fun b2 => ?_
 refine W.st (vt rfl) (vt rfl) rfl ?_
 refine WL.nil (Q.tn ?_)
 refine CW.join (X := Int) (fun sz => [(1, true, .string (S nm)), (3, true, .bool r), (11, true, .pointer (some ⟨b2, 0, none⟩))]) (fun sz => [(b2, .cells (encDn (askD (id % 65536) nm (k % 256) r sz) (oa (some b1), 1) nS nS nS).toArray 53 (0, 0))] ++ rowL (some b1) 29 (flat encQ [⟨nm, (k % 256)⟩] [])) (fun sz => sz = 0 ∨ (512 ≤ sz ∧ sz ≤ 65535)) ?_ ?_
 ·refine W.go ?_
  refine W.p (O.andM 1 2 (h := by decide) (hq := by decide) (hM := by decide)) ?_
  refine W.go ?_
  refine CW.cond (vt rfl) (fun hc2 => ?_) (fun hc2 => ?_)
  ·try simp only [sk] at hc2
   refine W.go ?_
   refine W.p (O.andM 10 1024 (h := by decide) (hq := by decide) (hM := by decide)) ?_
   refine W.go ?_
   first | refine W.st (vt rfl) (vt rfl) rfl ?_ | refine W.st (u := .int _ _) (vt rfl) (vt rfl) rfl ?_
   refine WL.nil (Q.tn ?_)
   first | (refine ⟨512 + size % 1024, .inr ⟨by omega, by omega⟩, ?_, ?_⟩; (simp only [SubE]; trivial); exact List.Sublist.refl _) | (refine ⟨0, .inl rfl, ?_, ?_⟩; (simp only [SubE]; trivial); exact List.Sublist.refl _)
  try simp only [sk] at hc2
  refine CW.skip (Q.tn ?_)
  first | (refine ⟨512 + size % 1024, .inr ⟨by omega, by omega⟩, ?_, ?_⟩; (simp only [SubE]; trivial); exact List.Sublist.refl _) | (refine ⟨0, .inl rfl, ?_, ?_⟩; (simp only [SubE]; trivial); exact List.Sublist.refl _)
 ·rintro sz hsz
  try dsimp only
  refine W.go ?_
  refine W.q (O.call ⟨rfl, rfl⟩ (AV.cons (vt rfl) (AV.cons (vt rfl) (AV.nil))) (fun _ w hw => ref_PutDns (askD (id % 65536) nm (k % 256) r sz) (oa (some b1), 1) nS nS nS 512 w ⟨RowL.h (enc := encQ) (xs := [⟨nm, (k % 256)⟩]) (a := oa (some b1)) _ hw, In.nil, In.nil, In.nil⟩ (dsz_of ⟨by simp [askD], fun q hq => by simp only [askD, List.mem_singleton] at hq; subst hq; dsimp only; omega⟩ nmb_nil nmb_nil rfl))) ?_
  refine W.go ?_
  refine CW.cond (vt rfl) (fun hc3 => ?_) (fun hc3 => ?_)
  ·try simp only [sk] at hc3
   refine W.go ?_
   refine ⟨_, [], (RVs.tmp rfl RVs.nil), List.nil_sublist _, ?_⟩
   refine ⟨congrArg Value.bool ?_, rfl⟩
   rfl
  try simp only [sk] at hc3
  obtain ⟨m, y1, y2, y3, y4, y5, y6, y7, y8, y9⟩ := echo_got hc3
  have hql : (dnGet (ansP givC [] 0 1 (dnPut (askD (id % 65536) nm (k % 256) r sz) 512).1).1).1.qs.length = 1 := by rw [y2]; exact congrArg List.length y5
  refine W.go ?_
  refine W.callN (first := []) (cap := []) rfl (vt rfl) (AV.nil) (fun w hu => law21_given w) ?_; rintro _ _ ⟨g1, g2, g3, rfl, rfl⟩
  refine W.go ?_
  refine W.q (O.call ⟨rfl, rfl⟩ (AV.cons (vt rfl) (AV.cons (vt rfl) (AV.cons (vt rfl) (AV.cons (vt rfl) (AV.cons (vt rfl) (AV.nil)))))) (fun _ w hw => an_Answer givC (oa (some g1), 1) (oa (some g2), 1) (oa (some g3), 1) [] none 0 0 1 (dnPut (askD (id % 65536) nm (k % 256) r sz) 512).1 w (CfIn.mk (RowL.h (enc := encI) (xs := givC.excl) (a := oa (some g1)) _ hw) (RowL.h (enc := encRs) (xs := givC.resv) (a := oa (some g2)) _ hw) (RowL.h (enc := encR) (xs := givC.stat) (a := oa (some g3)) _ hw)) g21_sz In.nil n21_sz ⟨by decide, by decide⟩ put_askE (ht.upd hw))) ?_
  refine W.go ?_
  refine W.callN (first := []) (cap := []) rfl (vt rfl) (AV.cons (vt rfl) (AV.nil)) (fun w hu => ref_GetDns (ansP givC [] 0 1 (dnPut (askD (id % 65536) nm (k % 256) r sz) 512).1).1 w (Nat.le_trans ans_lenE (by decide))) ?_; rintro _ _ ⟨o41, c41, p41, o42, c42, p42, o43, c43, p43, o44, c44, p44, rfl, ok41, ok42, ok43, ok44, rfl⟩; have nk41 := ok41.nk (α := Qn') (xs := (dnGet (ansP givC [] 0 1 (dnPut (askD (id % 65536) nm (k % 256) r sz) 512).1).1).1.qs)
  refine W.go ?_
  refine W.al rfl rfl fun b3 => ?_
  refine W.st (vt rfl) (vt rfl) rfl ?_
  refine W.go ?_
  refine W.q (O.call ⟨rfl, rfl⟩ (AV.cons (vs rfl) (AV.nil)) (fun _ w hw => law0_Num _ w)) ?_
  refine W.go ?_
  refine W.p O.eqB ?_
  refine W.go ?_
  refine W.q (O.call ⟨rfl, rfl⟩ (AV.cons (vs rfl) (AV.cons (vs rfl) (AV.nil))) (fun _ w hw => sameQuestions (dnGet (ansP givC [] 0 1 (dnPut (askD (id % 65536) nm (k % 256) r sz) 512).1).1).1.qs [⟨nm, (k % 256)⟩] _ _ _ _ w (RowL.h (enc := encQ) (xs := (dnGet (ansP givC [] 0 1 (dnPut (askD (id % 65536) nm (k % 256) r sz) 512).1).1).1.qs) (a := oa o41) _ hw) (RowL.h (enc := encQ) (xs := [⟨nm, (k % 256)⟩]) (a := oa (some b1)) _ hw) (by omega))) ?_
  refine W.go ?_
  refine W.p O.eqB ?_
  refine W.go ?_
  refine ⟨_, [], (RVs.tmp rfl RVs.nil), List.nil_sublist _, ?_⟩
  refine ⟨congrArg Value.bool ?_, rfl⟩
  rw [y1, y2]; dsimp only
  rw [y3, y4, y5, y6, y7, y8, y9]
  have z : (decide ((0 : Int) < if 0 < sz then 512 else 0) == decide (0 < (askD (id % 65536) nm (k % 256) r sz).size)) = true := by rw [askD]; dsimp only; by_cases hs : 0 < sz <;> simp [hs]
  rw [z]; simp [askD]
end Go.Proofs.YtfmdaijkgjkmpaaGreatDoor
