/- What the taker of package rr, and rr.Get, come to. Condition: the texts are not longer than some 2^46 bytes. -/
import Derived.Test.YtfmdaijkgjkmpaaGreatDoorRrPen
import Derived.Test.YtfmdaijkgjkmpaaGreatDoorWire
set_option linter.unusedVariables false
set_option linter.unusedSimpArgs false
namespace Go.Proofs.YtfmdaijkgjkmpaaGreatDoor
open Go Go.RowKit
set_option maxRecDepth 100000 in
theorem tk_soa {b br : Nat} {s : List UInt8} {t : TS} {r : RR} (w : World) (hL : Holds (RrO br r :: TkH b s t) w) (hs : s.length ≤ 140737488355328) :
  Fn Tryz.prog 162 [.pointer (some ⟨b, 0, none⟩), .pointer (some ⟨br, 0, none⟩)] w (RrO br r :: TkH b s t) fun v L' => L' = RrO br (tSoa IntKind.i64.wrap s r t).1 :: TkH b s (tSoa IntKind.i64.wrap s r t).2 := by
 refine Fn.enter Tryz.func162 rfl rfl rfl rfl hL ?_
 refine W.go ?_
 refine W.callS (first := []) (cap := []) (TkH b s t) rfl (vt rfl) (AV.cons (vt rfl) (AV.nil)) (fun w hu hh => tk_Name w hh hs) ?_; rintro _ _ ⟨rfl, rfl⟩
 refine W.go ?_
 first | refine W.st (vt rfl) (vt rfl) rfl ?_ | refine W.st (u := .string _) (vt rfl) (vt rfl) rfl ?_
 refine W.go ?_
 refine CW.drawH [RrO br ⟨r.name, r.type, r.ttl, r.addr, (tName s t).1, r.text, r.serial⟩] rfl ?_
 refine RH.qa 0 rfl (O.mv) ?_
 refine RH.qa 1 rfl (O.mv) ?_
 refine RH.qa 3 rfl (O.mv) ?_
 refine RH.qa 4 rfl (O.nc) ?_
 first | refine RH.qa 5 rfl (O.fb) ?_ | refine RH.qa 5 rfl (O.fa) ?_
 refine RH.qa 6 rfl (O.ld) ?_
 refine RH.one (i := 2) (fun _ _ h => h) (by kernel_rfl) rfl ?_
 refine W.callS (first := []) (cap := []) (TkH b s (tName s t).2) rfl (vt rfl) (AV.cons (vt rfl) (AV.nil)) (fun w hu hh => tk_Name w hh hs) ?_; rintro _ _ ⟨rfl, rfl⟩
 refine WL.nilQa ?_
 refine RH.qa 7 rfl (O.neS) ?_
 refine RH.qa 8 rfl (O.mv) ?_
 refine RH.qa 9 rfl (O.mv) ?_
 refine RH.qa 10 rfl (O.nc) ?_
 first | refine RH.qa 11 rfl (O.fb) ?_ | refine RH.qa 11 rfl (O.fa) ?_
 refine RH.one (i := 12) (fun _ _ h => h) (by kernel_rfl) rfl ?_
 refine W.p O.ld ?_
 refine WL.nilQa ?_
 refine RH.qa 13 rfl (O.pkB) ?_
 refine RH.qa 14 rfl (O.nc) ?_
 first | refine RH.qa 15 rfl (O.fb) ?_ | refine RH.qa 15 rfl (O.fa) ?_
 refine RH.one (i := 16) (fun _ _ h => h) (by kernel_rfl) rfl ?_
 refine W.st (vt rfl) (vt rfl) rfl ?_
 refine WL.nilQa ?_
 refine RH.done (by kernel_rfl) (Q.tn ?_)
 refine W.go ?_
 refine W.callS (first := []) (cap := []) (TkH b s ⟨(tName s (tName s t).2).2.at_, bif !decide ((tName s (tName s t).2).1 = (tName s t).1) then true else (tName s (tName s t).2).2.bad⟩) rfl (vt rfl) (AV.cons (vt rfl) (AV.cons (vt rfl) (AV.nil))) (fun w hu hh => tk_Num 4 w hh hs) ?_; rintro _ _ ⟨rfl, rfl⟩
 refine W.go ?_
 first | refine W.st (vt rfl) (vt rfl) rfl ?_ | refine W.st (u := .int _ _) (vt rfl) (vt rfl) rfl ?_
 refine W.go ?_
 refine W.callN (first := []) (cap := []) rfl (vt rfl) (AV.nil) (fun w hu => rr_times w) ?_; rintro _ _ ⟨ot, ct, st, rfl, okt, rfl⟩; have nkt := okt.nk
 refine W.go ?_
 refine CW.loopA (X := Int × TS) (fun ⟨i, q⟩ => [(0, true, .pointer (some ⟨b, 0, none⟩)), (32, true, .slice (oa ot) 4 ct), (33, true, .int .i64 4), (34, true, .int .i64 i)]) (fun ⟨i, q⟩ => rowL ot 3 (flat encI [60, 60, 600, 60] st) ++ (RrO br ⟨r.name, r.type, r.ttl, r.addr, (tName s t).1, r.text, (tNum IntKind.i64.wrap s 4 ⟨(tName s (tName s t).2).2.at_, bif !decide ((tName s (tName s t).2).1 = (tName s t).1) then true else (tName s (tName s t).2).2.bad⟩).1⟩ :: TkH b s q)) (fun ⟨i, q⟩ => 0 ≤ i ∧ i ≤ 4 ∧ q = (([60, 60, 600, 60] : List Int).take i.toNat).foldl (tTime IntKind.i64.wrap s) (tNum IntKind.i64.wrap s 4 ⟨(tName s (tName s t).2).2.at_, bif !decide ((tName s (tName s t).2).1 = (tName s t).1) then true else (tName s (tName s t).2).2.bad⟩).2) (fun ⟨i, q⟩ => (4 - i).toNat) (0, (tNum IntKind.i64.wrap s 4 ⟨(tName s (tName s t).2).2.at_, bif !decide ((tName s (tName s t).2).1 = (tName s t).1) then true else (tName s (tName s t).2).2.bad⟩).2) ?_ ?_
 ·exact ⟨by omega, by omega, rfl⟩
 rintro ⟨i, q⟩ hI
 try dsimp only at hI ⊢
 obtain ⟨h0, h1, hq⟩ := hI
 refine W.go ?_
 refine CW.cond (vt rfl) (fun hc1 => ?_) (fun hc1 => ?_)
 ·try simp only [sk] at hc1
  refine W.go ?_
  refine W.callS (first := []) (cap := []) (TkH b s q) rfl (vt rfl) (AV.cons (vt rfl) (AV.cons (vt rfl) (AV.nil))) (fun w hu hh => tk_Num 4 w hh hs) ?_; rintro _ _ ⟨rfl, rfl⟩
  refine W.go ?_
  refine W.st (vt rfl) (vt rfl) rfl ?_
  refine W.go ?_
  refine nextA (_, tTime IntKind.i64.wrap s q (([60, 60, 600, 60] : List Int).getD i.toNat 0)) ?_ ?_
  ·try dsimp only
   refine ⟨by omega, by omega, ?_⟩
   rw [take_at' 0 h0 (by simpa using hc1), List.foldl_append, ← hq]; rfl
  ·try dsimp only
   omega
 try simp only [sk] at hc1
 refine W.go ?_
 refine ⟨_, RrO br ⟨r.name, r.type, r.ttl, r.addr, (tName s t).1, r.text, (tNum IntKind.i64.wrap s 4 ⟨(tName s (tName s t).2).2.at_, bif !decide ((tName s (tName s t).2).1 = (tName s t).1) then true else (tName s (tName s t).2).2.bad⟩).1⟩ :: TkH b s q, RVs.nil, (by repeat (first | exact List.Sublist.refl _ | exact hSub _ | exact List.sublist_append_left _ _ | exact List.nil_sublist _ | refine List.Sublist.append (List.Sublist.refl _) ?_ | apply List.Sublist.cons_cons | apply List.Sublist.cons | exact List.sublist_append_left _ _ | refine List.Sublist.trans ?_ (List.sublist_append_right _ _))), ?_⟩
 have e4 : ([60, 60, 600, 60] : List Int).take i.toNat = [60, 60, 600, 60] := List.take_of_length_le (by simp; omega)
 rw [hq, e4]; rfl
theorem isName_iff (t : Int) : isName t = true ↔ t = 2 ∨ t = 5 ∨ t = 12 := by simp [isName, or_assoc]
section
variable {s : List UInt8} {size : Int} {r : RR} {t : TS} {Wf : Int → Int}
theorem tData_1 (h : r.type = 1) : tData Wf s size r t = (⟨r.name, r.type, r.ttl, (tNum Wf s 4 t).1, r.target, r.text, r.serial⟩, ⟨(tNum Wf s 4 t).2.at_, bif (tNum Wf s 4 t).2.bad then true else !decide ((tNum Wf s 4 t).2.at_ = Wf (t.at_ + size))⟩) := by
 rw [tData, tType, if_pos h]
theorem tData_2 (h : isName r.type = true) : tData Wf s size r t = (⟨r.name, r.type, r.ttl, r.addr, (tName s t).1, r.text, r.serial⟩, ⟨(tName s t).2.at_, bif (tName s t).2.bad then true else !decide ((tName s t).2.at_ = Wf (t.at_ + size))⟩) := by
 have h1 : ¬ r.type = 1 := by intro e; rw [e] at h; exact absurd h (by decide)
 rw [tData, tType, if_neg h1, if_pos h]
theorem tData_6 (h : r.type = 6) : tData Wf s size r t = ((tSoa Wf s r t).1, ⟨(tSoa Wf s r t).2.at_, bif (tSoa Wf s r t).2.bad then true else !decide ((tSoa Wf s r t).2.at_ = Wf (t.at_ + size))⟩) := by
 rw [tData, tType, if_neg (by omega), if_neg (by rw [h]; decide), if_pos h]
theorem tData_16 (h : r.type = 16) : tData Wf s size r t = (⟨r.name, r.type, r.ttl, r.addr, r.target, (tSome s (tNum Wf s 1 t).1 (tNum Wf s 1 t).2).1, r.serial⟩, ⟨(tSome s (tNum Wf s 1 t).1 (tNum Wf s 1 t).2).2.at_, bif (tSome s (tNum Wf s 1 t).1 (tNum Wf s 1 t).2).2.bad then true else !decide ((tSome s (tNum Wf s 1 t).1 (tNum Wf s 1 t).2).2.at_ = Wf (t.at_ + size))⟩) := by
 rw [tData, tType, if_neg (by omega), if_neg (by rw [h]; decide), if_neg (by omega), if_pos h]
theorem tData_0 (h1 : ¬ r.type = 1) (h2 : ¬ isName r.type = true) (h6 : ¬ r.type = 6) (h16 : ¬ r.type = 16) : tData Wf s size r t = (⟨r.name, r.type, r.ttl, r.addr, r.target, (tSome s size t).1, r.serial⟩, ⟨(tSome s size t).2.at_, bif (tSome s size t).2.bad then true else !decide ((tSome s size t).2.at_ = Wf (t.at_ + size))⟩) := by
 rw [tData, tType, if_neg h1, if_neg h2, if_neg h6, if_neg h16]
end
set_option maxRecDepth 100000 in
theorem tk_data {b br : Nat} {s : List UInt8} {t : TS} {r : RR} (size : Int) (w : World) (hL : Holds (RrO br r :: TkH b s t) w) (hs : s.length ≤ 140737488355328) (hb : t.bad = false) (ha : 0 ≤ t.at_ ∧ t.at_ ≤ s.length) (hz : 0 ≤ size ∧ size < 65536) :
  Fn Tryz.prog 146 [.pointer (some ⟨b, 0, none⟩), .pointer (some ⟨br, 0, none⟩), .int .i64 size] w (RrO br r :: TkH b s t) fun v L' => L' = RrO br (tData IntKind.i64.wrap s size r t).1 :: TkH b s (tData IntKind.i64.wrap s size r t).2 := by
 have hW : IntKind.i64.wrap (t.at_ + size) = t.at_ + size := wrap_in _ (by omega)
 have h1 := beG_rng1 s t.at_
 have iN := isName_iff r.type
 refine Fn.enter Tryz.func146 rfl rfl rfl rfl hL ?_
 refine W.go ?_
 refine CW.cond (vt rfl) (fun hc1 => ?_) (fun hc1 => ?_)
 ·try simp only [sk] at hc1
  refine W.go ?_
  refine W.callS (first := []) (cap := []) (TkH b s t) rfl (vt rfl) (AV.cons (vt rfl) (AV.cons (vt rfl) (AV.nil))) (fun w hu hh => tk_Num 4 w hh hs) ?_; rintro _ _ ⟨rfl, rfl⟩
  refine W.go ?_
  first | refine W.st (vt rfl) (vt rfl) rfl ?_ | refine W.st (u := .int _ _) (vt rfl) (vt rfl) rfl ?_
  refine W.go ?_
  refine W.st (vt rfl) (vt rfl) rfl ?_
  refine WL.nil ?_
  refine ⟨_, _, RVs.nil, List.Sublist.refl _, ?_⟩
  first | (exfalso; omega) | (rw [tData_1 (by omega), hW]; done) | (rw [tData_2 (iN.2 (by omega)), hW]; done) | (rw [tData_6 (by omega), hW]; done) | (rw [tData_16 (by omega), hW]; done) | (rw [tData_0 (by omega) (fun h => by have := iN.1 h; omega) (by omega) (by omega), hW]; done)
 try simp only [sk] at hc1
 refine W.go ?_
 refine CW.cond (vt rfl) (fun hc2 => ?_) (fun hc2 => ?_)
 ·try simp only [sk] at hc2
  refine W.go ?_
  refine CW.cond (vt rfl) (fun hc3 => ?_) (fun hc3 => ?_)
  ·try simp only [sk] at hc3
   refine W.go ?_
   refine W.callS (first := []) (cap := []) (TkH b s t) rfl (vt rfl) (AV.cons (vt rfl) (AV.nil)) (fun w hu hh => tk_Name w hh hs) ?_; rintro _ _ ⟨rfl, rfl⟩
   refine W.go ?_
   first | refine W.st (vt rfl) (vt rfl) rfl ?_ | refine W.st (u := .string _) (vt rfl) (vt rfl) rfl ?_
   refine W.go ?_
   refine W.st (vt rfl) (vt rfl) rfl ?_
   refine WL.nil ?_
   refine ⟨_, _, RVs.nil, List.Sublist.refl _, ?_⟩
   first | (exfalso; omega) | (rw [tData_1 (by omega), hW]; done) | (rw [tData_2 (iN.2 (by omega)), hW]; done) | (rw [tData_6 (by omega), hW]; done) | (rw [tData_16 (by omega), hW]; done) | (rw [tData_0 (by omega) (fun h => by have := iN.1 h; omega) (by omega) (by omega), hW]; done)
  try simp only [sk] at hc3
  refine W.go ?_
  refine CW.cond (vt rfl) (fun hc4 => ?_) (fun hc4 => ?_)
  ·try simp only [sk] at hc4
   refine W.go ?_
   refine W.callS (first := []) (cap := []) (RrO br r :: TkH b s t) rfl (vt rfl) (AV.cons (vt rfl) (AV.cons (vt rfl) (AV.nil))) (fun w hu hh => tk_soa w hh hs) ?_; rintro _ _ rfl
   refine W.go ?_
   refine W.st (vt rfl) (vt rfl) rfl ?_
   refine WL.nil ?_
   refine ⟨_, _, RVs.nil, List.Sublist.refl _, ?_⟩
   first | (exfalso; omega) | (rw [tData_1 (by omega), hW]; done) | (rw [tData_2 (iN.2 (by omega)), hW]; done) | (rw [tData_6 (by omega), hW]; done) | (rw [tData_16 (by omega), hW]; done) | (rw [tData_0 (by omega) (fun h => by have := iN.1 h; omega) (by omega) (by omega), hW]; done)
  try simp only [sk] at hc4
  refine W.go ?_
  refine CW.cond (vt rfl) (fun hc5 => ?_) (fun hc5 => ?_)
  ·try simp only [sk] at hc5
   refine W.go ?_
   refine W.callS (first := []) (cap := []) (TkH b s t) rfl (vt rfl) (AV.cons (vt rfl) (AV.cons (vt rfl) (AV.nil))) (fun w hu hh => tk_Num 1 w hh hs) ?_; rintro _ _ ⟨rfl, rfl⟩
   refine W.callS (first := []) (cap := []) (TkH b s (tNum IntKind.i64.wrap s 1 t).2) rfl (vt rfl) (AV.cons (vt rfl) (AV.cons (vt rfl) (AV.nil))) (fun w hu hh => tk_Some (tNum IntKind.i64.wrap s 1 t).1 w hh hs (tNum_rng hs (by simp) (fun _ => ha.1)) h1) ?_; rintro _ _ ⟨rfl, rfl⟩
   refine W.go ?_
   first | refine W.st (vt rfl) (vt rfl) rfl ?_ | refine W.st (u := .string _) (vt rfl) (vt rfl) rfl ?_
   refine W.go ?_
   refine W.st (vt rfl) (vt rfl) rfl ?_
   refine WL.nil ?_
   refine ⟨_, _, RVs.nil, List.Sublist.refl _, ?_⟩
   first | (exfalso; omega) | (rw [tData_1 (by omega), hW]; done) | (rw [tData_2 (iN.2 (by omega)), hW]; done) | (rw [tData_6 (by omega), hW]; done) | (rw [tData_16 (by omega), hW]; done) | (rw [tData_0 (by omega) (fun h => by have := iN.1 h; omega) (by omega) (by omega), hW]; done)
  try simp only [sk] at hc5
  refine W.go ?_
  refine W.callS (first := []) (cap := []) (TkH b s t) rfl (vt rfl) (AV.cons (vt rfl) (AV.cons (vt rfl) (AV.nil))) (fun w hu hh => tk_Some size w hh hs (fun _ => ha) (by omega)) ?_; rintro _ _ ⟨rfl, rfl⟩
  refine W.go ?_
  first | refine W.st (vt rfl) (vt rfl) rfl ?_ | refine W.st (u := .string _) (vt rfl) (vt rfl) rfl ?_
  refine W.go ?_
  refine W.st (vt rfl) (vt rfl) rfl ?_
  refine WL.nil ?_
  refine ⟨_, _, RVs.nil, List.Sublist.refl _, ?_⟩
  first | (exfalso; omega) | (rw [tData_1 (by omega), hW]; done) | (rw [tData_2 (iN.2 (by omega)), hW]; done) | (rw [tData_6 (by omega), hW]; done) | (rw [tData_16 (by omega), hW]; done) | (rw [tData_0 (by omega) (fun h => by have := iN.1 h; omega) (by omega) (by omega), hW]; done)
 try simp only [sk] at hc2
 refine W.go ?_
 refine CW.cond (vt rfl) (fun hc6 => ?_) (fun hc6 => ?_)
 ·try simp only [sk] at hc6
  refine W.go ?_
  refine CW.cond (vt rfl) (fun hc7 => ?_) (fun hc7 => ?_)
  ·try simp only [sk] at hc7
   refine W.go ?_
   refine W.callS (first := []) (cap := []) (TkH b s t) rfl (vt rfl) (AV.cons (vt rfl) (AV.nil)) (fun w hu hh => tk_Name w hh hs) ?_; rintro _ _ ⟨rfl, rfl⟩
   refine W.go ?_
   first | refine W.st (vt rfl) (vt rfl) rfl ?_ | refine W.st (u := .string _) (vt rfl) (vt rfl) rfl ?_
   refine W.go ?_
   refine W.st (vt rfl) (vt rfl) rfl ?_
   refine WL.nil ?_
   refine ⟨_, _, RVs.nil, List.Sublist.refl _, ?_⟩
   first | (exfalso; omega) | (rw [tData_1 (by omega), hW]; done) | (rw [tData_2 (iN.2 (by omega)), hW]; done) | (rw [tData_6 (by omega), hW]; done) | (rw [tData_16 (by omega), hW]; done) | (rw [tData_0 (by omega) (fun h => by have := iN.1 h; omega) (by omega) (by omega), hW]; done)
  try simp only [sk] at hc7
  refine W.go ?_
  refine CW.cond (vt rfl) (fun hc8 => ?_) (fun hc8 => ?_)
  ·try simp only [sk] at hc8
   refine W.go ?_
   refine W.callS (first := []) (cap := []) (RrO br r :: TkH b s t) rfl (vt rfl) (AV.cons (vt rfl) (AV.cons (vt rfl) (AV.nil))) (fun w hu hh => tk_soa w hh hs) ?_; rintro _ _ rfl
   refine W.go ?_
   refine W.st (vt rfl) (vt rfl) rfl ?_
   refine WL.nil ?_
   refine ⟨_, _, RVs.nil, List.Sublist.refl _, ?_⟩
   first | (exfalso; omega) | (rw [tData_1 (by omega), hW]; done) | (rw [tData_2 (iN.2 (by omega)), hW]; done) | (rw [tData_6 (by omega), hW]; done) | (rw [tData_16 (by omega), hW]; done) | (rw [tData_0 (by omega) (fun h => by have := iN.1 h; omega) (by omega) (by omega), hW]; done)
  try simp only [sk] at hc8
  refine W.go ?_
  refine CW.cond (vt rfl) (fun hc9 => ?_) (fun hc9 => ?_)
  ·try simp only [sk] at hc9
   refine W.go ?_
   refine W.callS (first := []) (cap := []) (TkH b s t) rfl (vt rfl) (AV.cons (vt rfl) (AV.cons (vt rfl) (AV.nil))) (fun w hu hh => tk_Num 1 w hh hs) ?_; rintro _ _ ⟨rfl, rfl⟩
   refine W.callS (first := []) (cap := []) (TkH b s (tNum IntKind.i64.wrap s 1 t).2) rfl (vt rfl) (AV.cons (vt rfl) (AV.cons (vt rfl) (AV.nil))) (fun w hu hh => tk_Some (tNum IntKind.i64.wrap s 1 t).1 w hh hs (tNum_rng hs (by simp) (fun _ => ha.1)) h1) ?_; rintro _ _ ⟨rfl, rfl⟩
   refine W.go ?_
   first | refine W.st (vt rfl) (vt rfl) rfl ?_ | refine W.st (u := .string _) (vt rfl) (vt rfl) rfl ?_
   refine W.go ?_
   refine W.st (vt rfl) (vt rfl) rfl ?_
   refine WL.nil ?_
   refine ⟨_, _, RVs.nil, List.Sublist.refl _, ?_⟩
   first | (exfalso; omega) | (rw [tData_1 (by omega), hW]; done) | (rw [tData_2 (iN.2 (by omega)), hW]; done) | (rw [tData_6 (by omega), hW]; done) | (rw [tData_16 (by omega), hW]; done) | (rw [tData_0 (by omega) (fun h => by have := iN.1 h; omega) (by omega) (by omega), hW]; done)
  try simp only [sk] at hc9
  refine W.go ?_
  refine W.callS (first := []) (cap := []) (TkH b s t) rfl (vt rfl) (AV.cons (vt rfl) (AV.cons (vt rfl) (AV.nil))) (fun w hu hh => tk_Some size w hh hs (fun _ => ha) (by omega)) ?_; rintro _ _ ⟨rfl, rfl⟩
  refine W.go ?_
  first | refine W.st (vt rfl) (vt rfl) rfl ?_ | refine W.st (u := .string _) (vt rfl) (vt rfl) rfl ?_
  refine W.go ?_
  refine W.st (vt rfl) (vt rfl) rfl ?_
  refine WL.nil ?_
  refine ⟨_, _, RVs.nil, List.Sublist.refl _, ?_⟩
  first | (exfalso; omega) | (rw [tData_1 (by omega), hW]; done) | (rw [tData_2 (iN.2 (by omega)), hW]; done) | (rw [tData_6 (by omega), hW]; done) | (rw [tData_16 (by omega), hW]; done) | (rw [tData_0 (by omega) (fun h => by have := iN.1 h; omega) (by omega) (by omega), hW]; done)
 try simp only [sk] at hc6
 refine W.go ?_
 refine CW.cond (vt rfl) (fun hc10 => ?_) (fun hc10 => ?_)
 ·try simp only [sk] at hc10
  refine W.go ?_
  refine W.callS (first := []) (cap := []) (TkH b s t) rfl (vt rfl) (AV.cons (vt rfl) (AV.nil)) (fun w hu hh => tk_Name w hh hs) ?_; rintro _ _ ⟨rfl, rfl⟩
  refine W.go ?_
  first | refine W.st (vt rfl) (vt rfl) rfl ?_ | refine W.st (u := .string _) (vt rfl) (vt rfl) rfl ?_
  refine W.go ?_
  refine W.st (vt rfl) (vt rfl) rfl ?_
  refine WL.nil ?_
  refine ⟨_, _, RVs.nil, List.Sublist.refl _, ?_⟩
  first | (exfalso; omega) | (rw [tData_1 (by omega), hW]; done) | (rw [tData_2 (iN.2 (by omega)), hW]; done) | (rw [tData_6 (by omega), hW]; done) | (rw [tData_16 (by omega), hW]; done) | (rw [tData_0 (by omega) (fun h => by have := iN.1 h; omega) (by omega) (by omega), hW]; done)
 try simp only [sk] at hc10
 refine W.go ?_
 refine CW.cond (vt rfl) (fun hc11 => ?_) (fun hc11 => ?_)
 ·try simp only [sk] at hc11
  refine W.go ?_
  refine W.callS (first := []) (cap := []) (RrO br r :: TkH b s t) rfl (vt rfl) (AV.cons (vt rfl) (AV.cons (vt rfl) (AV.nil))) (fun w hu hh => tk_soa w hh hs) ?_; rintro _ _ rfl
  refine W.go ?_
  refine W.st (vt rfl) (vt rfl) rfl ?_
  refine WL.nil ?_
  refine ⟨_, _, RVs.nil, List.Sublist.refl _, ?_⟩
  first | (exfalso; omega) | (rw [tData_1 (by omega), hW]; done) | (rw [tData_2 (iN.2 (by omega)), hW]; done) | (rw [tData_6 (by omega), hW]; done) | (rw [tData_16 (by omega), hW]; done) | (rw [tData_0 (by omega) (fun h => by have := iN.1 h; omega) (by omega) (by omega), hW]; done)
 try simp only [sk] at hc11
 refine W.go ?_
 refine CW.cond (vt rfl) (fun hc12 => ?_) (fun hc12 => ?_)
 ·try simp only [sk] at hc12
  refine W.go ?_
  refine W.callS (first := []) (cap := []) (TkH b s t) rfl (vt rfl) (AV.cons (vt rfl) (AV.cons (vt rfl) (AV.nil))) (fun w hu hh => tk_Num 1 w hh hs) ?_; rintro _ _ ⟨rfl, rfl⟩
  refine W.callS (first := []) (cap := []) (TkH b s (tNum IntKind.i64.wrap s 1 t).2) rfl (vt rfl) (AV.cons (vt rfl) (AV.cons (vt rfl) (AV.nil))) (fun w hu hh => tk_Some (tNum IntKind.i64.wrap s 1 t).1 w hh hs (tNum_rng hs (by simp) (fun _ => ha.1)) h1) ?_; rintro _ _ ⟨rfl, rfl⟩
  refine W.go ?_
  first | refine W.st (vt rfl) (vt rfl) rfl ?_ | refine W.st (u := .string _) (vt rfl) (vt rfl) rfl ?_
  refine W.go ?_
  refine W.st (vt rfl) (vt rfl) rfl ?_
  refine WL.nil ?_
  refine ⟨_, _, RVs.nil, List.Sublist.refl _, ?_⟩
  first | (exfalso; omega) | (rw [tData_1 (by omega), hW]; done) | (rw [tData_2 (iN.2 (by omega)), hW]; done) | (rw [tData_6 (by omega), hW]; done) | (rw [tData_16 (by omega), hW]; done) | (rw [tData_0 (by omega) (fun h => by have := iN.1 h; omega) (by omega) (by omega), hW]; done)
 try simp only [sk] at hc12
 refine W.go ?_
 refine W.callS (first := []) (cap := []) (TkH b s t) rfl (vt rfl) (AV.cons (vt rfl) (AV.cons (vt rfl) (AV.nil))) (fun w hu hh => tk_Some size w hh hs (fun _ => ha) (by omega)) ?_; rintro _ _ ⟨rfl, rfl⟩
 refine W.go ?_
 first | refine W.st (vt rfl) (vt rfl) rfl ?_ | refine W.st (u := .string _) (vt rfl) (vt rfl) rfl ?_
 refine W.go ?_
 refine W.st (vt rfl) (vt rfl) rfl ?_
 refine WL.nil ?_
 refine ⟨_, _, RVs.nil, List.Sublist.refl _, ?_⟩
 first | (exfalso; omega) | (rw [tData_1 (by omega), hW]; done) | (rw [tData_2 (iN.2 (by omega)), hW]; done) | (rw [tData_6 (by omega), hW]; done) | (rw [tData_16 (by omega), hW]; done) | (rw [tData_0 (by omega) (fun h => by have := iN.1 h; omega) (by omega) (by omega), hW]; done)
instance (priority := 2000) Seg.two {p : Nat × Obj} {L M : Heap} : Seg (p :: (L ++ M)) (p :: L) (fun X => X ++ M) := ⟨[], M, by simp, fun X => by simp⟩
set_option maxRecDepth 100000 in
theorem rr_Get (s : List UInt8) (p : Int) (w : World) (hs : s.length ≤ 140737488355328) : Fn Tryz.prog 132 [.string (S s), .int .i64 p] w [] fun v L' => v = .tuple #[vR (rrGet s p).1, .int .i64 (rrGet s p).2.1, .int .i64 (rrGet s p).2.2] ∧ L' = [] := by
 have ha := grN_len s p
 have hd := tData_len (W := IntKind.i64.wrap) (s := s) (k := (tNum IntKind.i64.wrap s 2 (tNum IntKind.i64.wrap s 4 ⟨(tNum IntKind.i64.wrap s 2 (tNum IntKind.i64.wrap s 2 (tName s ⟨p, false⟩).2).2).2.at_, bif !decide ((tNum IntKind.i64.wrap s 2 (tNum IntKind.i64.wrap s 2 (tName s ⟨p, false⟩).2).2).1 = 1) then true else (tNum IntKind.i64.wrap s 2 (tNum IntKind.i64.wrap s 2 (tName s ⟨p, false⟩).2).2).2.bad⟩).2).1) (r := ⟨(tName s ⟨p, false⟩).1, (tNum IntKind.i64.wrap s 2 (tName s ⟨p, false⟩).2).1, (tNum IntKind.i64.wrap s 4 ⟨(tNum IntKind.i64.wrap s 2 (tNum IntKind.i64.wrap s 2 (tName s ⟨p, false⟩).2).2).2.at_, bif !decide ((tNum IntKind.i64.wrap s 2 (tNum IntKind.i64.wrap s 2 (tName s ⟨p, false⟩).2).2).1 = 1) then true else (tNum IntKind.i64.wrap s 2 (tNum IntKind.i64.wrap s 2 (tName s ⟨p, false⟩).2).2).2.bad⟩).1, 0, [], [], 0⟩) (t := (tNum IntKind.i64.wrap s 2 (tNum IntKind.i64.wrap s 4 ⟨(tNum IntKind.i64.wrap s 2 (tNum IntKind.i64.wrap s 2 (tName s ⟨p, false⟩).2).2).2.at_, bif !decide ((tNum IntKind.i64.wrap s 2 (tNum IntKind.i64.wrap s 2 (tName s ⟨p, false⟩).2).2).1 = 1) then true else (tNum IntKind.i64.wrap s 2 (tNum IntKind.i64.wrap s 2 (tName s ⟨p, false⟩).2).2).2.bad⟩).2).2)
 have hA : (tName s ⟨p, false⟩).1.length ≤ 72 := ha
 have hd1 : (tData IntKind.i64.wrap s (tNum IntKind.i64.wrap s 2 (tNum IntKind.i64.wrap s 4 ⟨(tNum IntKind.i64.wrap s 2 (tNum IntKind.i64.wrap s 2 (tName s ⟨p, false⟩).2).2).2.at_, bif !decide ((tNum IntKind.i64.wrap s 2 (tNum IntKind.i64.wrap s 2 (tName s ⟨p, false⟩).2).2).1 = 1) then true else (tNum IntKind.i64.wrap s 2 (tNum IntKind.i64.wrap s 2 (tName s ⟨p, false⟩).2).2).2.bad⟩).2).1 ⟨(tName s ⟨p, false⟩).1, (tNum IntKind.i64.wrap s 2 (tName s ⟨p, false⟩).2).1, (tNum IntKind.i64.wrap s 4 ⟨(tNum IntKind.i64.wrap s 2 (tNum IntKind.i64.wrap s 2 (tName s ⟨p, false⟩).2).2).2.at_, bif !decide ((tNum IntKind.i64.wrap s 2 (tNum IntKind.i64.wrap s 2 (tName s ⟨p, false⟩).2).2).1 = 1) then true else (tNum IntKind.i64.wrap s 2 (tNum IntKind.i64.wrap s 2 (tName s ⟨p, false⟩).2).2).2.bad⟩).1, 0, [], [], 0⟩ (tNum IntKind.i64.wrap s 2 (tNum IntKind.i64.wrap s 4 ⟨(tNum IntKind.i64.wrap s 2 (tNum IntKind.i64.wrap s 2 (tName s ⟨p, false⟩).2).2).2.at_, bif !decide ((tNum IntKind.i64.wrap s 2 (tNum IntKind.i64.wrap s 2 (tName s ⟨p, false⟩).2).2).1 = 1) then true else (tNum IntKind.i64.wrap s 2 (tNum IntKind.i64.wrap s 2 (tName s ⟨p, false⟩).2).2).2.bad⟩).2).2).1.name.length ≤ 72 := by rw [hd.1]; exact ha
 have hd2 : (tData IntKind.i64.wrap s (tNum IntKind.i64.wrap s 2 (tNum IntKind.i64.wrap s 4 ⟨(tNum IntKind.i64.wrap s 2 (tNum IntKind.i64.wrap s 2 (tName s ⟨p, false⟩).2).2).2.at_, bif !decide ((tNum IntKind.i64.wrap s 2 (tNum IntKind.i64.wrap s 2 (tName s ⟨p, false⟩).2).2).1 = 1) then true else (tNum IntKind.i64.wrap s 2 (tNum IntKind.i64.wrap s 2 (tName s ⟨p, false⟩).2).2).2.bad⟩).2).1 ⟨(tName s ⟨p, false⟩).1, (tNum IntKind.i64.wrap s 2 (tName s ⟨p, false⟩).2).1, (tNum IntKind.i64.wrap s 4 ⟨(tNum IntKind.i64.wrap s 2 (tNum IntKind.i64.wrap s 2 (tName s ⟨p, false⟩).2).2).2.at_, bif !decide ((tNum IntKind.i64.wrap s 2 (tNum IntKind.i64.wrap s 2 (tName s ⟨p, false⟩).2).2).1 = 1) then true else (tNum IntKind.i64.wrap s 2 (tNum IntKind.i64.wrap s 2 (tName s ⟨p, false⟩).2).2).2.bad⟩).1, 0, [], [], 0⟩ (tNum IntKind.i64.wrap s 2 (tNum IntKind.i64.wrap s 4 ⟨(tNum IntKind.i64.wrap s 2 (tNum IntKind.i64.wrap s 2 (tName s ⟨p, false⟩).2).2).2.at_, bif !decide ((tNum IntKind.i64.wrap s 2 (tNum IntKind.i64.wrap s 2 (tName s ⟨p, false⟩).2).2).1 = 1) then true else (tNum IntKind.i64.wrap s 2 (tNum IntKind.i64.wrap s 2 (tName s ⟨p, false⟩).2).2).2.bad⟩).2).2).1.target.length ≤ 72 := by have := hd.2; simp only [List.length_nil] at this; omega
 have hfin := tAll_eq wr_in hs p
 refine Fn.enter Tryz.func132 rfl rfl rfl rfl (Holds.nil w) ?_
 refine W.go ?_
 refine W.al rfl rfl fun b1 => ?_
 refine W.go ?_
 refine W.p (O.bd (hv := PV.cons (vt rfl) (PV.cons (vt rfl) (PV.nil)))) ?_
 refine W.bx rfl (vt rfl) rfl fun b2 => ?_
 refine W.go ?_
 refine W.callS (first := []) (cap := []) (TkH b2 s ⟨p, false⟩) rfl (vt rfl) (AV.cons (vt rfl) (AV.nil)) (fun w hu hh => tk_Name w hh hs) ?_; rintro _ _ ⟨rfl, rfl⟩
 refine W.p (O.bd (hv := PV.cons (vt rfl) (PV.nil))) ?_
 refine W.al rfl rfl fun b3 => ?_
 refine W.st (vt rfl) (vt rfl) rfl ?_
 refine W.go ?_
 refine W.callS (first := []) (cap := []) (TkH b2 s (tName s ⟨p, false⟩).2) rfl (vt rfl) (AV.cons (vt rfl) (AV.cons (vt rfl) (AV.nil))) (fun w hu hh => tk_Num 2 w hh hs) ?_; rintro _ _ ⟨rfl, rfl⟩
 refine W.go ?_
 first | refine W.st (vt rfl) (vt rfl) rfl ?_ | refine W.st (u := .int _ _) (vt rfl) (vt rfl) rfl ?_
 refine W.go ?_
 refine W.callS (first := []) (cap := []) (TkH b2 s (tNum IntKind.i64.wrap s 2 (tName s ⟨p, false⟩).2).2) rfl (vt rfl) (AV.cons (vt rfl) (AV.cons (vt rfl) (AV.nil))) (fun w hu hh => tk_Num 2 w hh hs) ?_; rintro _ _ ⟨rfl, rfl⟩
 refine W.go ?_
 refine W.st (vt rfl) (vt rfl) rfl ?_
 refine W.go ?_
 refine W.callS (first := []) (cap := []) (TkH b2 s ⟨(tNum IntKind.i64.wrap s 2 (tNum IntKind.i64.wrap s 2 (tName s ⟨p, false⟩).2).2).2.at_, bif !decide ((tNum IntKind.i64.wrap s 2 (tNum IntKind.i64.wrap s 2 (tName s ⟨p, false⟩).2).2).1 = 1) then true else (tNum IntKind.i64.wrap s 2 (tNum IntKind.i64.wrap s 2 (tName s ⟨p, false⟩).2).2).2.bad⟩) rfl (vt rfl) (AV.cons (vt rfl) (AV.cons (vt rfl) (AV.nil))) (fun w hu hh => tk_Num 4 w hh hs) ?_; rintro _ _ ⟨rfl, rfl⟩
 refine W.go ?_
 first | refine W.st (vt rfl) (vt rfl) rfl ?_ | refine W.st (u := .int _ _) (vt rfl) (vt rfl) rfl ?_
 refine W.go ?_
 refine W.callS (first := []) (cap := []) (TkH b2 s (tNum IntKind.i64.wrap s 4 ⟨(tNum IntKind.i64.wrap s 2 (tNum IntKind.i64.wrap s 2 (tName s ⟨p, false⟩).2).2).2.at_, bif !decide ((tNum IntKind.i64.wrap s 2 (tNum IntKind.i64.wrap s 2 (tName s ⟨p, false⟩).2).2).1 = 1) then true else (tNum IntKind.i64.wrap s 2 (tNum IntKind.i64.wrap s 2 (tName s ⟨p, false⟩).2).2).2.bad⟩).2) rfl (vt rfl) (AV.cons (vt rfl) (AV.cons (vt rfl) (AV.nil))) (fun w hu hh => tk_Num 2 w hh hs) ?_; rintro _ _ ⟨rfl, rfl⟩
 refine W.go ?_
 refine CW.cond (vt rfl) (fun hc1 => ?_) (fun hc1 => ?_)
 ·try simp only [sk] at hc1
  have hrng := tHead_rng wr_in hs (p := p) hc1
  have hall : tAll IntKind.i64.wrap s p = (tData IntKind.i64.wrap s (tNum IntKind.i64.wrap s 2 (tNum IntKind.i64.wrap s 4 ⟨(tNum IntKind.i64.wrap s 2 (tNum IntKind.i64.wrap s 2 (tName s ⟨p, false⟩).2).2).2.at_, bif !decide ((tNum IntKind.i64.wrap s 2 (tNum IntKind.i64.wrap s 2 (tName s ⟨p, false⟩).2).2).1 = 1) then true else (tNum IntKind.i64.wrap s 2 (tNum IntKind.i64.wrap s 2 (tName s ⟨p, false⟩).2).2).2.bad⟩).2).1 ⟨(tName s ⟨p, false⟩).1, (tNum IntKind.i64.wrap s 2 (tName s ⟨p, false⟩).2).1, (tNum IntKind.i64.wrap s 4 ⟨(tNum IntKind.i64.wrap s 2 (tNum IntKind.i64.wrap s 2 (tName s ⟨p, false⟩).2).2).2.at_, bif !decide ((tNum IntKind.i64.wrap s 2 (tNum IntKind.i64.wrap s 2 (tName s ⟨p, false⟩).2).2).1 = 1) then true else (tNum IntKind.i64.wrap s 2 (tNum IntKind.i64.wrap s 2 (tName s ⟨p, false⟩).2).2).2.bad⟩).1, 0, [], [], 0⟩ (tNum IntKind.i64.wrap s 2 (tNum IntKind.i64.wrap s 4 ⟨(tNum IntKind.i64.wrap s 2 (tNum IntKind.i64.wrap s 2 (tName s ⟨p, false⟩).2).2).2.at_, bif !decide ((tNum IntKind.i64.wrap s 2 (tNum IntKind.i64.wrap s 2 (tName s ⟨p, false⟩).2).2).1 = 1) then true else (tNum IntKind.i64.wrap s 2 (tNum IntKind.i64.wrap s 2 (tName s ⟨p, false⟩).2).2).2.bad⟩).2).2) := if_neg (by rw [show (tHead IntKind.i64.wrap s p).2.2.bad = false from hc1]; decide)
  rw [hall] at hfin
  refine W.go ?_
  refine W.callS (first := []) (cap := []) (RrO b3 ⟨(tName s ⟨p, false⟩).1, (tNum IntKind.i64.wrap s 2 (tName s ⟨p, false⟩).2).1, (tNum IntKind.i64.wrap s 4 ⟨(tNum IntKind.i64.wrap s 2 (tNum IntKind.i64.wrap s 2 (tName s ⟨p, false⟩).2).2).2.at_, bif !decide ((tNum IntKind.i64.wrap s 2 (tNum IntKind.i64.wrap s 2 (tName s ⟨p, false⟩).2).2).1 = 1) then true else (tNum IntKind.i64.wrap s 2 (tNum IntKind.i64.wrap s 2 (tName s ⟨p, false⟩).2).2).2.bad⟩).1, 0, [], [], 0⟩ :: TkH b2 s (tNum IntKind.i64.wrap s 2 (tNum IntKind.i64.wrap s 4 ⟨(tNum IntKind.i64.wrap s 2 (tNum IntKind.i64.wrap s 2 (tName s ⟨p, false⟩).2).2).2.at_, bif !decide ((tNum IntKind.i64.wrap s 2 (tNum IntKind.i64.wrap s 2 (tName s ⟨p, false⟩).2).2).1 = 1) then true else (tNum IntKind.i64.wrap s 2 (tNum IntKind.i64.wrap s 2 (tName s ⟨p, false⟩).2).2).2.bad⟩).2).2) rfl (vt rfl) (AV.cons (vt rfl) (AV.cons (vt rfl) (AV.cons (vt rfl) (AV.nil)))) (fun w hu hh => tk_data (tNum IntKind.i64.wrap s 2 (tNum IntKind.i64.wrap s 4 ⟨(tNum IntKind.i64.wrap s 2 (tNum IntKind.i64.wrap s 2 (tName s ⟨p, false⟩).2).2).2.at_, bif !decide ((tNum IntKind.i64.wrap s 2 (tNum IntKind.i64.wrap s 2 (tName s ⟨p, false⟩).2).2).1 = 1) then true else (tNum IntKind.i64.wrap s 2 (tNum IntKind.i64.wrap s 2 (tName s ⟨p, false⟩).2).2).2.bad⟩).2).1 w hh hs hc1 hrng.1 hrng.2) ?_; rintro _ _ rfl
  refine W.go ?_
  refine W.q (O.call ⟨rfl, rfl⟩ (AV.cons (vs rfl) (AV.nil)) (fun _ w hw => rr_May (tData IntKind.i64.wrap s (tNum IntKind.i64.wrap s 2 (tNum IntKind.i64.wrap s 4 ⟨(tNum IntKind.i64.wrap s 2 (tNum IntKind.i64.wrap s 2 (tName s ⟨p, false⟩).2).2).2.at_, bif !decide ((tNum IntKind.i64.wrap s 2 (tNum IntKind.i64.wrap s 2 (tName s ⟨p, false⟩).2).2).1 = 1) then true else (tNum IntKind.i64.wrap s 2 (tNum IntKind.i64.wrap s 2 (tName s ⟨p, false⟩).2).2).2.bad⟩).2).1 ⟨(tName s ⟨p, false⟩).1, (tNum IntKind.i64.wrap s 2 (tName s ⟨p, false⟩).2).1, (tNum IntKind.i64.wrap s 4 ⟨(tNum IntKind.i64.wrap s 2 (tNum IntKind.i64.wrap s 2 (tName s ⟨p, false⟩).2).2).2.at_, bif !decide ((tNum IntKind.i64.wrap s 2 (tNum IntKind.i64.wrap s 2 (tName s ⟨p, false⟩).2).2).1 = 1) then true else (tNum IntKind.i64.wrap s 2 (tNum IntKind.i64.wrap s 2 (tName s ⟨p, false⟩).2).2).2.bad⟩).1, 0, [], [], 0⟩ (tNum IntKind.i64.wrap s 2 (tNum IntKind.i64.wrap s 4 ⟨(tNum IntKind.i64.wrap s 2 (tNum IntKind.i64.wrap s 2 (tName s ⟨p, false⟩).2).2).2.at_, bif !decide ((tNum IntKind.i64.wrap s 2 (tNum IntKind.i64.wrap s 2 (tName s ⟨p, false⟩).2).2).1 = 1) then true else (tNum IntKind.i64.wrap s 2 (tNum IntKind.i64.wrap s 2 (tName s ⟨p, false⟩).2).2).2.bad⟩).2).2).1 w (by omega) (by omega))) ?_
  refine W.go ?_
  refine CW.cond (vt rfl) (fun hc2 => ?_) (fun hc2 => ?_)
  ·try simp only [sk] at hc2
   refine W.go ?_
   refine W.p (O.bd (hv := PV.nil)) ?_
   refine W.st (vt rfl) (vt rfl) rfl ?_
   refine W.go ?_
   refine ⟨_, [], (RVs.cell rfl (RVs.tmp rfl (RVs.tmp rfl RVs.nil))), List.nil_sublist _, ?_⟩
   have e : ((tData IntKind.i64.wrap s (tNum IntKind.i64.wrap s 2 (tNum IntKind.i64.wrap s 4 ⟨(tNum IntKind.i64.wrap s 2 (tNum IntKind.i64.wrap s 2 (tName s ⟨p, false⟩).2).2).2.at_, bif !decide ((tNum IntKind.i64.wrap s 2 (tNum IntKind.i64.wrap s 2 (tName s ⟨p, false⟩).2).2).1 = 1) then true else (tNum IntKind.i64.wrap s 2 (tNum IntKind.i64.wrap s 2 (tName s ⟨p, false⟩).2).2).2.bad⟩).2).1 ⟨(tName s ⟨p, false⟩).1, (tNum IntKind.i64.wrap s 2 (tName s ⟨p, false⟩).2).1, (tNum IntKind.i64.wrap s 4 ⟨(tNum IntKind.i64.wrap s 2 (tNum IntKind.i64.wrap s 2 (tName s ⟨p, false⟩).2).2).2.at_, bif !decide ((tNum IntKind.i64.wrap s 2 (tNum IntKind.i64.wrap s 2 (tName s ⟨p, false⟩).2).2).1 = 1) then true else (tNum IntKind.i64.wrap s 2 (tNum IntKind.i64.wrap s 2 (tName s ⟨p, false⟩).2).2).2.bad⟩).1, 0, [], [], 0⟩ (tNum IntKind.i64.wrap s 2 (tNum IntKind.i64.wrap s 4 ⟨(tNum IntKind.i64.wrap s 2 (tNum IntKind.i64.wrap s 2 (tName s ⟨p, false⟩).2).2).2.at_, bif !decide ((tNum IntKind.i64.wrap s 2 (tNum IntKind.i64.wrap s 2 (tName s ⟨p, false⟩).2).2).1 = 1) then true else (tNum IntKind.i64.wrap s 2 (tNum IntKind.i64.wrap s 2 (tName s ⟨p, false⟩).2).2).2.bad⟩).2).2)).2.bad = true ∨ rrMay ((tData IntKind.i64.wrap s (tNum IntKind.i64.wrap s 2 (tNum IntKind.i64.wrap s 4 ⟨(tNum IntKind.i64.wrap s 2 (tNum IntKind.i64.wrap s 2 (tName s ⟨p, false⟩).2).2).2.at_, bif !decide ((tNum IntKind.i64.wrap s 2 (tNum IntKind.i64.wrap s 2 (tName s ⟨p, false⟩).2).2).1 = 1) then true else (tNum IntKind.i64.wrap s 2 (tNum IntKind.i64.wrap s 2 (tName s ⟨p, false⟩).2).2).2.bad⟩).2).1 ⟨(tName s ⟨p, false⟩).1, (tNum IntKind.i64.wrap s 2 (tName s ⟨p, false⟩).2).1, (tNum IntKind.i64.wrap s 4 ⟨(tNum IntKind.i64.wrap s 2 (tNum IntKind.i64.wrap s 2 (tName s ⟨p, false⟩).2).2).2.at_, bif !decide ((tNum IntKind.i64.wrap s 2 (tNum IntKind.i64.wrap s 2 (tName s ⟨p, false⟩).2).2).1 = 1) then true else (tNum IntKind.i64.wrap s 2 (tNum IntKind.i64.wrap s 2 (tName s ⟨p, false⟩).2).2).2.bad⟩).1, 0, [], [], 0⟩ (tNum IntKind.i64.wrap s 2 (tNum IntKind.i64.wrap s 4 ⟨(tNum IntKind.i64.wrap s 2 (tNum IntKind.i64.wrap s 2 (tName s ⟨p, false⟩).2).2).2.at_, bif !decide ((tNum IntKind.i64.wrap s 2 (tNum IntKind.i64.wrap s 2 (tName s ⟨p, false⟩).2).2).1 = 1) then true else (tNum IntKind.i64.wrap s 2 (tNum IntKind.i64.wrap s 2 (tName s ⟨p, false⟩).2).2).2.bad⟩).2).2)).1 = false := hc2
   rw [← hfin, fin, if_pos e]; exact ⟨rfl, rfl⟩
  try simp only [sk] at hc2
  refine W.go ?_
  refine CW.drawC [.pin, .flo, .flo, .flo, .flo, .lou, .flo, .flo] (RrO b3 (tData IntKind.i64.wrap s (tNum IntKind.i64.wrap s 2 (tNum IntKind.i64.wrap s 4 ⟨(tNum IntKind.i64.wrap s 2 (tNum IntKind.i64.wrap s 2 (tName s ⟨p, false⟩).2).2).2.at_, bif !decide ((tNum IntKind.i64.wrap s 2 (tNum IntKind.i64.wrap s 2 (tName s ⟨p, false⟩).2).2).1 = 1) then true else (tNum IntKind.i64.wrap s 2 (tNum IntKind.i64.wrap s 2 (tName s ⟨p, false⟩).2).2).2.bad⟩).2).1 ⟨(tName s ⟨p, false⟩).1, (tNum IntKind.i64.wrap s 2 (tName s ⟨p, false⟩).2).1, (tNum IntKind.i64.wrap s 4 ⟨(tNum IntKind.i64.wrap s 2 (tNum IntKind.i64.wrap s 2 (tName s ⟨p, false⟩).2).2).2.at_, bif !decide ((tNum IntKind.i64.wrap s 2 (tNum IntKind.i64.wrap s 2 (tName s ⟨p, false⟩).2).2).1 = 1) then true else (tNum IntKind.i64.wrap s 2 (tNum IntKind.i64.wrap s 2 (tName s ⟨p, false⟩).2).2).2.bad⟩).1, 0, [], [], 0⟩ (tNum IntKind.i64.wrap s 2 (tNum IntKind.i64.wrap s 4 ⟨(tNum IntKind.i64.wrap s 2 (tNum IntKind.i64.wrap s 2 (tName s ⟨p, false⟩).2).2).2.at_, bif !decide ((tNum IntKind.i64.wrap s 2 (tNum IntKind.i64.wrap s 2 (tName s ⟨p, false⟩).2).2).1 = 1) then true else (tNum IntKind.i64.wrap s 2 (tNum IntKind.i64.wrap s 2 (tName s ⟨p, false⟩).2).2).2.bad⟩).2).2).1 :: TkH b2 s (tData IntKind.i64.wrap s (tNum IntKind.i64.wrap s 2 (tNum IntKind.i64.wrap s 4 ⟨(tNum IntKind.i64.wrap s 2 (tNum IntKind.i64.wrap s 2 (tName s ⟨p, false⟩).2).2).2.at_, bif !decide ((tNum IntKind.i64.wrap s 2 (tNum IntKind.i64.wrap s 2 (tName s ⟨p, false⟩).2).2).1 = 1) then true else (tNum IntKind.i64.wrap s 2 (tNum IntKind.i64.wrap s 2 (tName s ⟨p, false⟩).2).2).2.bad⟩).2).1 ⟨(tName s ⟨p, false⟩).1, (tNum IntKind.i64.wrap s 2 (tName s ⟨p, false⟩).2).1, (tNum IntKind.i64.wrap s 4 ⟨(tNum IntKind.i64.wrap s 2 (tNum IntKind.i64.wrap s 2 (tName s ⟨p, false⟩).2).2).2.at_, bif !decide ((tNum IntKind.i64.wrap s 2 (tNum IntKind.i64.wrap s 2 (tName s ⟨p, false⟩).2).2).1 = 1) then true else (tNum IntKind.i64.wrap s 2 (tNum IntKind.i64.wrap s 2 (tName s ⟨p, false⟩).2).2).2.bad⟩).1, 0, [], [], 0⟩ (tNum IntKind.i64.wrap s 2 (tNum IntKind.i64.wrap s 4 ⟨(tNum IntKind.i64.wrap s 2 (tNum IntKind.i64.wrap s 2 (tName s ⟨p, false⟩).2).2).2.at_, bif !decide ((tNum IntKind.i64.wrap s 2 (tNum IntKind.i64.wrap s 2 (tName s ⟨p, false⟩).2).2).1 = 1) then true else (tNum IntKind.i64.wrap s 2 (tNum IntKind.i64.wrap s 2 (tName s ⟨p, false⟩).2).2).2.bad⟩).2).2).2) rfl (by kernel_rfl) (by repeat (first | exact List.nil_sublist _ | exact List.Sublist.refl _ | apply List.Sublist.cons_cons | apply List.Sublist.cons)) ?_
  refine WX.p (QV.q O.lds) ?_
  refine WX.f (QV.q O.mv) ?_
  refine WX.f (QV.q O.nc) ?_
  first | refine WX.f (QV.q O.fb) ?_ | refine WX.f (QV.q O.fa) ?_
  refine WX.f (QV.q O.ld) ?_
  refine WX.l (O.st (vt rfl) (vt rfl) rfl) (by repeat (first | exact List.nil_sublist _ | exact List.Sublist.refl _ | apply List.Sublist.cons_cons | apply List.Sublist.cons)) ?_
  refine WX.f (QV.q O.as) ?_
  refine WX.f (QV.q O.as) ?_
  refine WX.nil (Q.tn ?_)
  refine CW.ret ?_
  refine ⟨_, [], (RVs.cell rfl (RVs.tmp rfl (RVs.tmp rfl RVs.nil))), List.nil_sublist _, ?_⟩
  have e : ((tData IntKind.i64.wrap s (tNum IntKind.i64.wrap s 2 (tNum IntKind.i64.wrap s 4 ⟨(tNum IntKind.i64.wrap s 2 (tNum IntKind.i64.wrap s 2 (tName s ⟨p, false⟩).2).2).2.at_, bif !decide ((tNum IntKind.i64.wrap s 2 (tNum IntKind.i64.wrap s 2 (tName s ⟨p, false⟩).2).2).1 = 1) then true else (tNum IntKind.i64.wrap s 2 (tNum IntKind.i64.wrap s 2 (tName s ⟨p, false⟩).2).2).2.bad⟩).2).1 ⟨(tName s ⟨p, false⟩).1, (tNum IntKind.i64.wrap s 2 (tName s ⟨p, false⟩).2).1, (tNum IntKind.i64.wrap s 4 ⟨(tNum IntKind.i64.wrap s 2 (tNum IntKind.i64.wrap s 2 (tName s ⟨p, false⟩).2).2).2.at_, bif !decide ((tNum IntKind.i64.wrap s 2 (tNum IntKind.i64.wrap s 2 (tName s ⟨p, false⟩).2).2).1 = 1) then true else (tNum IntKind.i64.wrap s 2 (tNum IntKind.i64.wrap s 2 (tName s ⟨p, false⟩).2).2).2.bad⟩).1, 0, [], [], 0⟩ (tNum IntKind.i64.wrap s 2 (tNum IntKind.i64.wrap s 4 ⟨(tNum IntKind.i64.wrap s 2 (tNum IntKind.i64.wrap s 2 (tName s ⟨p, false⟩).2).2).2.at_, bif !decide ((tNum IntKind.i64.wrap s 2 (tNum IntKind.i64.wrap s 2 (tName s ⟨p, false⟩).2).2).1 = 1) then true else (tNum IntKind.i64.wrap s 2 (tNum IntKind.i64.wrap s 2 (tName s ⟨p, false⟩).2).2).2.bad⟩).2).2)).2.bad = false ∧ rrMay ((tData IntKind.i64.wrap s (tNum IntKind.i64.wrap s 2 (tNum IntKind.i64.wrap s 4 ⟨(tNum IntKind.i64.wrap s 2 (tNum IntKind.i64.wrap s 2 (tName s ⟨p, false⟩).2).2).2.at_, bif !decide ((tNum IntKind.i64.wrap s 2 (tNum IntKind.i64.wrap s 2 (tName s ⟨p, false⟩).2).2).1 = 1) then true else (tNum IntKind.i64.wrap s 2 (tNum IntKind.i64.wrap s 2 (tName s ⟨p, false⟩).2).2).2.bad⟩).2).1 ⟨(tName s ⟨p, false⟩).1, (tNum IntKind.i64.wrap s 2 (tName s ⟨p, false⟩).2).1, (tNum IntKind.i64.wrap s 4 ⟨(tNum IntKind.i64.wrap s 2 (tNum IntKind.i64.wrap s 2 (tName s ⟨p, false⟩).2).2).2.at_, bif !decide ((tNum IntKind.i64.wrap s 2 (tNum IntKind.i64.wrap s 2 (tName s ⟨p, false⟩).2).2).1 = 1) then true else (tNum IntKind.i64.wrap s 2 (tNum IntKind.i64.wrap s 2 (tName s ⟨p, false⟩).2).2).2.bad⟩).1, 0, [], [], 0⟩ (tNum IntKind.i64.wrap s 2 (tNum IntKind.i64.wrap s 4 ⟨(tNum IntKind.i64.wrap s 2 (tNum IntKind.i64.wrap s 2 (tName s ⟨p, false⟩).2).2).2.at_, bif !decide ((tNum IntKind.i64.wrap s 2 (tNum IntKind.i64.wrap s 2 (tName s ⟨p, false⟩).2).2).1 = 1) then true else (tNum IntKind.i64.wrap s 2 (tNum IntKind.i64.wrap s 2 (tName s ⟨p, false⟩).2).2).2.bad⟩).2).2)).1 = true := hc2
  rw [← hfin, fin, if_neg (by rintro (h | h); rw [e.1] at h; cases h; rw [e.2] at h; cases h)]; exact ⟨rfl, rfl⟩
 try simp only [sk] at hc1
 have hall : tAll IntKind.i64.wrap s p = (⟨(tName s ⟨p, false⟩).1, (tNum IntKind.i64.wrap s 2 (tName s ⟨p, false⟩).2).1, (tNum IntKind.i64.wrap s 4 ⟨(tNum IntKind.i64.wrap s 2 (tNum IntKind.i64.wrap s 2 (tName s ⟨p, false⟩).2).2).2.at_, bif !decide ((tNum IntKind.i64.wrap s 2 (tNum IntKind.i64.wrap s 2 (tName s ⟨p, false⟩).2).2).1 = 1) then true else (tNum IntKind.i64.wrap s 2 (tNum IntKind.i64.wrap s 2 (tName s ⟨p, false⟩).2).2).2.bad⟩).1, 0, [], [], 0⟩, (tNum IntKind.i64.wrap s 2 (tNum IntKind.i64.wrap s 4 ⟨(tNum IntKind.i64.wrap s 2 (tNum IntKind.i64.wrap s 2 (tName s ⟨p, false⟩).2).2).2.at_, bif !decide ((tNum IntKind.i64.wrap s 2 (tNum IntKind.i64.wrap s 2 (tName s ⟨p, false⟩).2).2).1 = 1) then true else (tNum IntKind.i64.wrap s 2 (tNum IntKind.i64.wrap s 2 (tName s ⟨p, false⟩).2).2).2.bad⟩).2).2) := if_pos hc1
 rw [hall] at hfin
 refine W.go ?_
 refine W.q (O.call ⟨rfl, rfl⟩ (AV.cons (vs rfl) (AV.nil)) (fun _ w hw => rr_May ⟨(tName s ⟨p, false⟩).1, (tNum IntKind.i64.wrap s 2 (tName s ⟨p, false⟩).2).1, (tNum IntKind.i64.wrap s 4 ⟨(tNum IntKind.i64.wrap s 2 (tNum IntKind.i64.wrap s 2 (tName s ⟨p, false⟩).2).2).2.at_, bif !decide ((tNum IntKind.i64.wrap s 2 (tNum IntKind.i64.wrap s 2 (tName s ⟨p, false⟩).2).2).1 = 1) then true else (tNum IntKind.i64.wrap s 2 (tNum IntKind.i64.wrap s 2 (tName s ⟨p, false⟩).2).2).2.bad⟩).1, 0, [], [], 0⟩ w (by show ((tName s ⟨p, false⟩).1).length ≤ _; omega) (by simp))) ?_
 refine W.go ?_
 refine CW.cond (vt rfl) (fun hc3 => ?_) (fun hc3 => ?_)
 ·try simp only [sk] at hc3
  refine W.go ?_
  refine W.p (O.bd (hv := PV.nil)) ?_
  refine W.st (vt rfl) (vt rfl) rfl ?_
  refine W.go ?_
  refine ⟨_, [], (RVs.cell rfl (RVs.tmp rfl (RVs.tmp rfl RVs.nil))), List.nil_sublist _, ?_⟩
  have e : ((tNum IntKind.i64.wrap s 2 (tNum IntKind.i64.wrap s 4 ⟨(tNum IntKind.i64.wrap s 2 (tNum IntKind.i64.wrap s 2 (tName s ⟨p, false⟩).2).2).2.at_, bif !decide ((tNum IntKind.i64.wrap s 2 (tNum IntKind.i64.wrap s 2 (tName s ⟨p, false⟩).2).2).1 = 1) then true else (tNum IntKind.i64.wrap s 2 (tNum IntKind.i64.wrap s 2 (tName s ⟨p, false⟩).2).2).2.bad⟩).2)).2.bad = true := hc1
  rw [← hfin, fin, if_pos (.inl e)]; exact ⟨rfl, rfl⟩
 exfalso; have e : ((tNum IntKind.i64.wrap s 2 (tNum IntKind.i64.wrap s 4 ⟨(tNum IntKind.i64.wrap s 2 (tNum IntKind.i64.wrap s 2 (tName s ⟨p, false⟩).2).2).2.at_, bif !decide ((tNum IntKind.i64.wrap s 2 (tNum IntKind.i64.wrap s 2 (tName s ⟨p, false⟩).2).2).1 = 1) then true else (tNum IntKind.i64.wrap s 2 (tNum IntKind.i64.wrap s 2 (tName s ⟨p, false⟩).2).2).2.bad⟩).2)).2.bad = true := hc1; have e3 := hc3; simp only [Bool.cond_true_left] at e e3; rw [e] at e3; cases e3
end Go.Proofs.YtfmdaijkgjkmpaaGreatDoor
