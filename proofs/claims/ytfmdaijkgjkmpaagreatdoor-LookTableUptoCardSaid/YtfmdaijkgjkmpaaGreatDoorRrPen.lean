/- What the pen of package rr, and rr.Put, come to. Conditions: the texts are not longer than some 2^46 bytes, the rows not than a thousand millions. -/
import Derived.Test.YtfmdaijkgjkmpaaGreatDoorRr
import Derived.Test.YtfmdaijkgjkmpaaGreatDoorLaw0
set_option linter.unusedVariables false
set_option linter.unusedSimpArgs false
namespace Go.Proofs.YtfmdaijkgjkmpaaGreatDoor
open Go Go.RowKit
abbrev PenO (b : Nat) (fr : Int) (p : PS) (a : Option Addr) (c : Nat) : Nat × Obj := (b, .cells #[.int .i64 fr, .string (S p.out), .slice a p.ks.length c, .bool p.bad] 186 (0, 0))
abbrev PenH (b : Nat) (fr : Int) (p : PS) (a : Option Addr) (c : Nat) : Heap := [PenO b fr p a c]
abbrev RrH (b : Nat) (r : RR) : Heap := [(b, .cells (encR r).toArray 58 (0, 0))]
theorem pName_len (fr : Int) (s : List UInt8) (p : PS) : (pName IntKind.i64.wrap fr s p).out.length ≤ p.out.length + 74 ∧ (pName IntKind.i64.wrap fr s p).ks.length ≤ p.ks.length + 8 ∧ ∀ k ∈ (pName IntKind.i64.wrap fr s p).ks, k ∈ p.ks ∨ k.name.length ≤ 72 := by
 have h := nmPut_more (IntKind.i64.wrap (fr + p.out.length)) p.ks s
 unfold pName
 split
 ·exact ⟨by simp only; omega, by simp only; omega, fun k hk => .inl hk⟩
 ·exact ⟨by simp only [List.length_append]; omega, h.2.1, h.2.2⟩
theorem Fn.frame {P : Program} {f : FuncId} {args : List Value} {w : World} {Lf M : Heap} {R : Value → Heap → Prop} (hL : Holds (Lf ++ M) w) (h : Fn P f args w Lf R) : Fn P f args w (Lf ++ M) (fun v L' => ∃ L'', L' = L'' ++ M ∧ R v L'') :=
 Calls.mono h fun e w' ⟨v, L', h1, h2, h3⟩ => ⟨v, L' ++ M, h1, ⟨L', rfl, h2⟩, (Upd.refl hL).trans (List.Perm.refl _) h3⟩
set_option maxRecDepth 100000 in
theorem pen_name {b : Nat} {fr : Int} {p : PS} {a : Option Addr} {c : Nat} (s : List UInt8) (w : World) (hr : Lies w (PenH b fr p a c) a (p.ks.flatMap encK)) (hL : Holds (PenH b fr p a c) w) (hn : p.ks.length ≤ 1000000000) (hk : ∀ k ∈ p.ks, k.name.length ≤ 140737488355328) (hs : s.length ≤ 140737488355328) (ho : p.out.length ≤ 1000000) :
  Fn Tryz.prog 137 [.pointer (some ⟨b, 0, none⟩), .string (S s)] w (PenH b fr p a c) fun v L' => ∃ a' c' Lr, PRow a c p.ks Lr a' c' (pName IntKind.i64.wrap fr s p).ks ∧ ((pName IntKind.i64.wrap fr s p).bad = false → ∃ o sp, a' = oa o ∧ OwnOk o c' 2 (pName IntKind.i64.wrap fr s p).ks.length (List.length sp) ∧ Lr = rowL o 167 (flat encK (pName IntKind.i64.wrap fr s p).ks sp)) ∧ L' = Lr ++ PenH b fr (pName IntKind.i64.wrap fr s p) a' c' := by
 have row := hr.rowE
 have hm := nmPut_more (IntKind.i64.wrap (fr + p.out.length)) p.ks s
 refine Fn.enter Tryz.func137 rfl rfl rfl rfl hL ?_
 refine CW.seq ?_
 refine CW.drawH (PenH b fr p a c) rfl ?_
 refine RH.qa 0 rfl (O.mv) ?_
 refine RH.qa 1 rfl (O.nc) ?_
 first | refine RH.qa 2 rfl (O.fb) ?_ | refine RH.qa 2 rfl (O.fa) ?_
 refine RH.qa 3 rfl (O.ld) ?_
 refine RH.qa 4 rfl (O.mv) ?_
 refine RH.qa 5 rfl (O.nc) ?_
 first | refine RH.qa 6 rfl (O.fb) ?_ | refine RH.qa 6 rfl (O.fa) ?_
 refine RH.qa 7 rfl (O.ld) ?_
 refine RH.qa 8 rfl (O.len) ?_
 first | refine RH.qa 9 rfl (O.addN) ?_ | refine RH.qa 9 rfl (O.add) ?_
 refine RH.qa 10 rfl (O.mv) ?_
 refine RH.qa 11 rfl (O.nc) ?_
 first | refine RH.qa 12 rfl (O.fb) ?_ | refine RH.qa 12 rfl (O.fa) ?_
 refine RH.qa 13 rfl (O.ld) ?_
 refine RH.qa 14 rfl (O.mv) ?_
 refine RH.one (i := 15) (fun _ _ h => h) (by kernel_rfl) rfl ?_
 refine W.callN (first := []) (cap := []) rfl (vt rfl) (AV.cons (vt rfl) (AV.cons (vt rfl) (AV.cons (vt rfl) (AV.nil)))) (fun w hu => wr_Put _ p.ks s a c w (row.h _ w hu) hn hk hs) ?_; rintro _ _ ⟨o11, c11, sp11, rfl, ok11, rfl⟩; have nk11 := ok11.nk
 refine WL.nilQa ?_
 refine RH.qa 16 rfl (O.mv) ?_
 first | refine RH.qa 17 rfl (O.extL) ?_ | refine RH.qa 17 rfl (O.ext) ?_
 first | refine RH.qa 18 rfl (O.extL) ?_ | refine RH.qa 18 rfl (O.ext) ?_
 first | refine RH.qa 19 rfl (O.extL) ?_ | refine RH.qa 19 rfl (O.ext) ?_
 refine RH.qa 20 rfl (O.as) ?_
 refine RH.qa 21 rfl (O.as) ?_
 refine RH.qa 22 rfl (O.as) ?_
 refine RH.done (by kernel_rfl) (Q.tn ?_)
 refine W.go ?_
 refine W.st (vt rfl) (vt rfl) rfl ?_
 refine W.go ?_
 refine CW.cond (vt rfl) (fun hc1 => ?_) (fun hc1 => ?_)
 ·try simp only [sk] at hc1
  refine W.go ?_
  first | refine W.st (vt rfl) (vt rfl) rfl ?_ | refine W.st (u := .string _) (vt rfl) (vt rfl) rfl ?_
  refine W.go ?_
  first | refine W.st (vt rfl) (vt rfl) rfl ?_ | refine W.st (u := .slice _ _ _) (vt rfl) (vt rfl) rfl ?_
  refine WL.nil ?_
  refine ⟨_, _, RVs.nil, List.Sublist.refl _, ?_⟩
  have hno : ¬ (p.bad = true ∨ (nmPut (IntKind.i64.wrap (fr + p.out.length)) p.ks s).2.2 ≠ 0) := by rintro (h | h); rw [hc1.1] at h; cases h; exact h (by simpa using hc1.2)
  have hv : (bif p.bad then true else !decide ((nmPut (IntKind.i64.wrap (fr + p.out.length)) p.ks s).2.2 = 0)) = false := by rw [hc1.1, decide_eq_true hc1.2]; rfl
  rw [pName, if_neg hno]
  refine ⟨oa o11, c11, _, .inr ⟨o11, sp11, rfl, ok11, List.Sublist.refl _⟩, fun _ => ⟨o11, sp11, rfl, ok11, rfl⟩, ?_⟩
  show _ ++ PenH b fr ⟨p.out ++ (nmPut (IntKind.i64.wrap (fr + p.out.length)) p.ks s).1, (nmPut (IntKind.i64.wrap (fr + p.out.length)) p.ks s).2.1, (bif p.bad then true else !decide ((nmPut (IntKind.i64.wrap (fr + p.out.length)) p.ks s).2.2 = 0))⟩ (oa o11) c11 = _
  rw [hv]
 try simp only [sk] at hc1
 refine W.go ?_
 refine ⟨_, _, RVs.nil, List.Sublist.refl _, ?_⟩
 have hyes : p.bad = true ∨ (nmPut (IntKind.i64.wrap (fr + p.out.length)) p.ks s).2.2 ≠ 0 := by rcases hc1 with h | h; exact .inl h; exact .inr (by simpa using h)
 have hv : (bif p.bad then true else !decide ((nmPut (IntKind.i64.wrap (fr + p.out.length)) p.ks s).2.2 = 0)) = true := by rcases hyes with h | h; rw [h]; rfl; rw [decide_eq_false h]; cases p.bad <;> rfl
 rw [pName, if_pos hyes]
 refine ⟨a, c, rowL o11 167 (flat encK (nmPut (IntKind.i64.wrap (fr + p.out.length)) p.ks s).2.1 sp11), PRow.same, (fun h => by cases h), ?_⟩
 show _ ++ PenH b fr ⟨p.out, p.ks, (bif p.bad then true else !decide ((nmPut (IntKind.i64.wrap (fr + p.out.length)) p.ks s).2.2 = 0))⟩ a c = _
 rw [hv]
set_option maxRecDepth 100000 in
theorem pen_num {b : Nat} {fr : Int} {p : PS} {a : Option Addr} {c : Nat} (x : Int) (k : Nat) (w : World) (hL : Holds (PenH b fr p a c) w) (hk : k ≤ 100) (ho : p.out.length ≤ 1000000) :
  Fn Tryz.prog 138 [.pointer (some ⟨b, 0, none⟩), .int .i64 x, .int .i64 k] w (PenH b fr p a c) fun v L' => L' = PenH b fr (pNum x k p) a c := by
 have hb : (beb x k).length = k := beb_len k x
 refine Fn.enter Tryz.func138 rfl rfl rfl rfl hL ?_
 refine CW.draw 10 rfl (by kernel_rfl) ?_
 refine WQ.p O.mv ?_
 refine WQ.p O.nc ?_
 first | refine WQ.p O.fb ?_ | refine WQ.p O.fa ?_
 refine WQ.p O.ld ?_
 refine WQ.p O.mv ?_
 refine WQ.p O.mv ?_
 refine WQ.q (O.call ⟨rfl, rfl⟩ (AV.cons (vt rfl) (AV.cons (vt rfl) (AV.nil))) (fun _ w hw => be_Bytes x k w (by omega))) ?_
 refine WQ.p O.addS ?_
 refine WQ.p O.nc ?_
 first | refine WQ.p O.fb ?_ | refine WQ.p O.fa ?_
 refine WQ.nil ?_
 first | refine W.st (vt rfl) (vt rfl) rfl ?_ | refine W.st (u := .string _) (vt rfl) (vt rfl) rfl ?_
 refine WL.nil ?_
 refine ⟨_, _, RVs.nil, List.Sublist.refl _, ?_⟩
 rfl
theorem tims_len (l : List Int) : (tims l).length = 4 * l.length := by
 induction l with
 | nil => rfl
 | cons x l ih => simp only [tims, List.flatMap_cons, List.length_append, beb_len, List.length_cons] at ih ⊢; omega
theorem tims_app (l m : List Int) : tims (l ++ m) = tims l ++ tims m := by simp [tims]
theorem pData_len (fr : Int) (r : RR) (p : PS) (hr : r.text.length ≤ 100000) : (pData IntKind.i64.wrap fr r p).out.length ≤ p.out.length + 100200 := by
 have hst : soaTail.length = 16 := rfl
 have h1 := (pName_len fr r.target p).1
 have h2 := (pName_len fr r.target (pName IntKind.i64.wrap fr r.target p)).1
 unfold pData
 repeat' split
 all_goals first | omega | (simp only [pNum, pRaw, List.length_append, beb_len, hst]; omega)
set_option maxRecDepth 100000 in
theorem pen_data {b br : Nat} {fr : Int} {p : PS} {a : Option Addr} {c : Nat} (r : RR) (w : World) (hr : Lies w (PenH b fr p a c ++ RrH br r) a (p.ks.flatMap encK)) (hL : Holds (PenH b fr p a c ++ RrH br r) w) (hn : p.ks.length ≤ 999999000) (hk : ∀ k ∈ p.ks, k.name.length ≤ 140737488355328) (hs : r.target.length ≤ 140737488355328) (ht : r.text.length ≤ 100000) (ho : p.out.length ≤ 500000) :
  Fn Tryz.prog 139 [.pointer (some ⟨b, 0, none⟩), .pointer (some ⟨br, 0, none⟩)] w (PenH b fr p a c ++ RrH br r) fun v L' => ∃ a' c' Lr, PRow a c p.ks Lr a' c' (pData IntKind.i64.wrap fr r p).ks ∧ L' = Lr ++ (PenH b fr (pData IntKind.i64.wrap fr r p) a' c' ++ RrH br r) := by
 have hl := pName_len fr r.target p
 have hl2 := pName_len fr r.target (pName IntKind.i64.wrap fr r.target p)
 have hpn : ∀ x k (q : PS), (pNum x k q).out.length = q.out.length + k := fun x k q => by simp [pNum]
 have hst : soaTail.length = 16 := rfl
 have hp1 := hpn r.text.length 1 p
 have hk2 : ∀ k ∈ (pName IntKind.i64.wrap fr r.target p).ks, k.name.length ≤ 140737488355328 := fun k hk' => by rcases hl.2.2 k hk' with h | h; exact hk k h; omega
 refine Fn.enter Tryz.func139 rfl rfl rfl rfl hL ?_
 refine W.go ?_
 refine CW.cond (vt rfl) (fun hc1 => ?_) (fun hc1 => ?_)
 ·try simp only [sk] at hc1
  refine W.go ?_
  refine W.callS (first := []) (cap := []) (PenH b fr p a c) rfl (vt rfl) (AV.cons (vt rfl) (AV.cons (vt rfl) (AV.cons (vt rfl) (AV.nil)))) (fun w hu hh => pen_num _ 4 w hh (by decide) (by omega)) ?_; rintro _ _ rfl
  refine W.go ?_
  refine ⟨_, _, RVs.nil, List.Sublist.refl _, ?_⟩
  rw [show pData IntKind.i64.wrap fr r p = pNum r.addr 4 p by rw [pData, if_pos hc1]]
  exact ⟨a, c, [], PRow.same, rfl⟩
 try simp only [sk] at hc1
 refine W.go ?_
 refine CW.cond (vt rfl) (fun hc2 => ?_) (fun hc2 => ?_)
 ·try simp only [sk] at hc2
  refine W.go ?_
  refine W.callS (first := []) (cap := []) (PenH b fr p a c) rfl (vt rfl) (AV.cons (vt rfl) (AV.cons (vt rfl) (AV.nil))) (fun w hu hh => pen_name r.target w (hr.step hu (by exact List.sublist_append_left _ _)) hh (by omega) hk hs (by omega)) ?_; rintro _ _ ⟨a1, c1, L1, pr1, _, rfl⟩
  refine W.go ?_
  refine W.callS (first := []) (cap := []) (PenH b fr (pName IntKind.i64.wrap fr r.target p) a1 c1) rfl (vt rfl) (AV.cons (vt rfl) (AV.cons (vt rfl) (AV.nil))) (fun w hu hh => pen_name r.target w (pr1.lies hr (by rw [List.append_assoc] at hu; exact hu) (by exact List.sublist_append_left _ _)) hh (by omega) hk2 hs (by omega)) ?_; rintro _ _ ⟨a2, c2, L2, pr2, _, rfl⟩
  refine W.go ?_
  refine W.callS (first := []) (cap := []) (PenH b fr (pName IntKind.i64.wrap fr r.target (pName IntKind.i64.wrap fr r.target p)) a2 c2) rfl (vt rfl) (AV.cons (vt rfl) (AV.cons (vt rfl) (AV.cons (vt rfl) (AV.nil)))) (fun w hu hh => pen_num _ 4 w hh (by decide) (by omega)) ?_; rintro _ _ rfl
  refine W.go ?_
  refine W.callN (first := []) (cap := []) rfl (vt rfl) (AV.nil) (fun w hu => rr_times w) ?_; rintro _ _ ⟨ot, ct, st, rfl, okt, rfl⟩; have nkt := okt.nk
  refine W.go ?_
  refine CW.loopA (X := Int × PS) (fun ⟨i, q⟩ => [(0, true, .pointer (some ⟨b, 0, none⟩)), (44, true, .slice (oa ot) 4 ct), (45, true, .int .i64 4), (46, true, .int .i64 i)]) (fun ⟨i, q⟩ => rowL ot 3 (flat encI [60, 60, 600, 60] st) ++ ((L1 ++ (L2 ++ PenH b fr q a2 c2)) ++ RrH br r)) (fun ⟨i, q⟩ => 0 ≤ i ∧ i ≤ 4 ∧ q = pRaw (tims (([60, 60, 600, 60] : List Int).take i.toNat)) (pNum r.serial 4 (pName IntKind.i64.wrap fr r.target (pName IntKind.i64.wrap fr r.target p)))) (fun ⟨i, q⟩ => (4 - i).toNat) (0, pNum r.serial 4 (pName IntKind.i64.wrap fr r.target (pName IntKind.i64.wrap fr r.target p))) ?_ ?_
  ·exact ⟨by omega, by omega, by simp [tims, pRaw]⟩
  rintro ⟨i, q⟩ hI
  try dsimp only at hI ⊢
  obtain ⟨h0, h1, hq⟩ := hI
  have hql : q.out.length ≤ p.out.length + 200 := by rw [hq]; have := hpn r.serial 4 (pName IntKind.i64.wrap fr r.target (pName IntKind.i64.wrap fr r.target p)); simp only [pRaw, List.length_append, tims_len, List.length_take, List.length_cons, List.length_nil]; omega
  refine W.go ?_
  refine CW.cond (vt rfl) (fun hc3 => ?_) (fun hc3 => ?_)
  ·try simp only [sk] at hc3
   refine W.go ?_
   refine W.callS (first := []) (cap := []) (PenH b fr q a2 c2) rfl (vt rfl) (AV.cons (vt rfl) (AV.cons (vt rfl) (AV.cons (vt rfl) (AV.nil)))) (fun w hu hh => pen_num _ 4 w hh (by decide) (by omega)) ?_; rintro _ _ rfl
   refine W.go ?_
   refine nextA (_, pNum (([60, 60, 600, 60] : List Int).getD i.toNat 0) 4 q) ?_ ?_
   ·try dsimp only
    refine ⟨by omega, by omega, ?_⟩
    rw [take_at' 0 h0 (by simpa using hc3), tims_app, hq]; simp [pRaw, pNum, tims]
   ·try dsimp only
    omega
  try simp only [sk] at hc3
  refine W.go ?_
  refine ⟨_, (L1 ++ (L2 ++ PenH b fr q a2 c2)) ++ RrH br r, RVs.nil, (by repeat (first | exact List.Sublist.refl _ | exact hSub _ | exact List.sublist_append_left _ _ | exact List.nil_sublist _ | refine List.Sublist.append (List.Sublist.refl _) ?_ | apply List.Sublist.cons_cons | apply List.Sublist.cons | exact List.sublist_append_left _ _ | refine List.Sublist.trans ?_ (List.sublist_append_right _ _))), ?_⟩
  have e4 : ([60, 60, 600, 60] : List Int).take i.toNat = [60, 60, 600, 60] := List.take_of_length_le (by simp; omega)
  rw [show pData IntKind.i64.wrap fr r p = q by rw [pData, if_neg hc1, if_pos hc2, hq, e4, soaTail_tims]]
  have hks : q.ks = ((pName IntKind.i64.wrap fr r.target (pName IntKind.i64.wrap fr r.target p))).ks := by rw [hq]; rfl
  rw [hks]
  exact ⟨a2, c2, L1 ++ L2, pr1.trans pr2, by simp⟩
 try simp only [sk] at hc2
 refine W.go ?_
 refine CW.cond (vt rfl) (fun hc4 => ?_) (fun hc4 => ?_)
 ·try simp only [sk] at hc4
  refine W.go ?_
  refine W.callS (first := []) (cap := []) (PenH b fr p a c) rfl (vt rfl) (AV.cons (vt rfl) (AV.cons (vt rfl) (AV.cons (vt rfl) (AV.nil)))) (fun w hu hh => pen_num _ 1 w hh (by decide) (by omega)) ?_; rintro _ _ rfl
  refine W.go ?_
  refine CW.draw 11 rfl (by kernel_rfl) ?_
  refine WQ.p O.mv ?_
  refine WQ.p O.nc ?_
  first | refine WQ.p O.fb ?_ | refine WQ.p O.fa ?_
  refine WQ.p O.ld ?_
  refine WQ.p O.mv ?_
  refine WQ.p O.nc ?_
  first | refine WQ.p O.fb ?_ | refine WQ.p O.fa ?_
  refine WQ.p O.ld ?_
  refine WQ.p O.addS ?_
  refine WQ.p O.nc ?_
  first | refine WQ.p O.fb ?_ | refine WQ.p O.fa ?_
  refine WQ.nil ?_
  first | refine W.st (vt rfl) (vt rfl) rfl ?_ | refine W.st (u := .string _) (vt rfl) (vt rfl) rfl ?_
  refine W.go ?_
  refine ⟨_, _, RVs.nil, List.Sublist.refl _, ?_⟩
  rw [show pData IntKind.i64.wrap fr r p = pRaw r.text (pNum r.text.length 1 p) by rw [pData, if_neg hc1, if_neg hc2, if_pos hc4]]
  exact ⟨a, c, [], PRow.same, rfl⟩
 try simp only [sk] at hc4
 refine W.go ?_
 refine CW.cond (vt rfl) (fun hc5 => ?_) (fun hc5 => ?_)
 ·try simp only [sk] at hc5
  refine CW.draw 11 rfl (by kernel_rfl) ?_
  refine WQ.p O.mv ?_
  refine WQ.p O.nc ?_
  first | refine WQ.p O.fb ?_ | refine WQ.p O.fa ?_
  refine WQ.p O.ld ?_
  refine WQ.p O.mv ?_
  refine WQ.p O.nc ?_
  first | refine WQ.p O.fb ?_ | refine WQ.p O.fa ?_
  refine WQ.p O.ld ?_
  refine WQ.p O.addS ?_
  refine WQ.p O.nc ?_
  first | refine WQ.p O.fb ?_ | refine WQ.p O.fa ?_
  refine WQ.nil ?_
  first | refine W.st (vt rfl) (vt rfl) rfl ?_ | refine W.st (u := .string _) (vt rfl) (vt rfl) rfl ?_
  refine W.go ?_
  refine ⟨_, _, RVs.nil, List.Sublist.refl _, ?_⟩
  rw [show pData IntKind.i64.wrap fr r p = pRaw r.text p by rw [pData, if_neg hc1, if_neg hc2, if_neg hc4, if_pos hc5]]
  exact ⟨a, c, [], PRow.same, rfl⟩
 try simp only [sk] at hc5
 refine W.go ?_
 refine W.callS (first := []) (cap := []) (PenH b fr p a c) rfl (vt rfl) (AV.cons (vt rfl) (AV.cons (vt rfl) (AV.nil))) (fun w hu hh => pen_name r.target w (hr.step hu (by exact List.sublist_append_left _ _)) hh (by omega) hk hs (by omega)) ?_; rintro _ _ ⟨a1, c1, L1, pr1, _, rfl⟩
 refine W.go ?_
 refine ⟨_, _, RVs.nil, List.Sublist.refl _, ?_⟩
 rw [show pData IntKind.i64.wrap fr r p = pName IntKind.i64.wrap fr r.target p by rw [pData, if_neg hc1, if_neg hc2, if_neg hc4, if_neg hc5]]
 exact ⟨a1, c1, L1, pr1, by simp⟩
theorem pr_fin {a a1 a2 : Option Addr} {c c1 c2 : Nat} {ks k1 k2 : List Kn} {L1 L2 : Heap} (h : PRow a c ks L1 a1 c1 k1) (h' : PRow a1 c1 k1 L2 a2 c2 k2) (ow : ∃ o sp, a1 = oa o ∧ OwnOk o c1 2 k1.length (List.length sp) ∧ L1 = rowL o 167 (flat encK k1 sp)) :
  ∃ o sp, a2 = oa o ∧ OwnOk o c2 2 k2.length (List.length sp) ∧ ∀ M, (rowL o 167 (flat encK k2 sp)).Sublist (L1 ++ (L2 ++ M)) := by
 rcases h' with ⟨rfl, rfl, rfl⟩ | ⟨o, sp, rfl, ok, hr⟩
 ·obtain ⟨o, sp, rfl, ok, rfl⟩ := ow
  exact ⟨o, sp, rfl, ok, fun M => List.sublist_append_left _ _⟩
 ·exact ⟨o, sp, rfl, ok, fun M => (hr.trans (List.sublist_append_left _ _)).trans (List.sublist_append_right _ _)⟩
theorem pData_lo (fr : Int) (r : RR) (p : PS) : p.out.length ≤ (pData IntKind.i64.wrap fr r p).out.length := by
 have h1 : ∀ q : PS, q.out.length ≤ (pName IntKind.i64.wrap fr r.target q).out.length := fun q => by unfold pName; split <;> simp
 have h2 := h1 p
 have h3 := h1 (pName IntKind.i64.wrap fr r.target p)
 unfold pData
 repeat' split
 all_goals first | omega | (simp only [pNum, pRaw, List.length_append]; omega)
set_option maxRecDepth 100000 in
theorem rr_Put (at_ : Int) (ks : List Kn) (r : RR) (a : Option Addr) (c : Nat) (w : World) (h : In w a (ks.flatMap encK)) (ha : -9223372036854775808 ≤ at_ ∧ at_ ≤ 9223372036854775807) (hn : ks.length ≤ 900000000) (hk : ∀ k ∈ ks, k.name.length ≤ 140737488355328) (h1 : r.name.length ≤ 140737488355328) (h2 : r.target.length ≤ 140737488355328) :
  Fn Tryz.prog 116 [.int .i64 at_, .slice a ks.length c, vR r] w [] fun v L' => ∃ o c' sp, v = .tuple #[.string (S (rrPut at_ ks r).1), .slice (oa o) (rrPut at_ ks r).2.1.length c', .int .i64 (rrPut at_ ks r).2.2] ∧ OwnOk o c' 2 (rrPut at_ ks r).2.1.length (List.length sp) ∧ L' = rowL o 167 (flat encK (rrPut at_ ks r).2.1 sp) := by
 have row := Row.ofE h
 have hl := pName_len at_ r.name ⟨[], ks, false⟩
 simp only [List.length_nil] at hl
 have hpn : ∀ x k (q : PS), (pNum x k q).out.length = q.out.length + k := fun x k q => by simp [pNum]
 have hp1 : (pNum r.ttl 4 (pNum 1 2 (pNum r.type 2 (pName IntKind.i64.wrap at_ r.name ⟨[], ks, false⟩)))).out.length = (pName IntKind.i64.wrap at_ r.name ⟨[], ks, false⟩).out.length + 8 := by simp only [hpn]
 have hp2 := hpn 0 2 (pNum r.ttl 4 (pNum 1 2 (pNum r.type 2 (pName IntKind.i64.wrap at_ r.name ⟨[], ks, false⟩))))
 have hlo := pData_lo at_ r (pNum 0 2 (pNum r.ttl 4 (pNum 1 2 (pNum r.type 2 (pName IntKind.i64.wrap at_ r.name ⟨[], ks, false⟩)))))
 have hpd : pAll IntKind.i64.wrap at_ ks r = pData IntKind.i64.wrap at_ r (pNum 0 2 (pNum r.ttl 4 (pNum 1 2 (pNum r.type 2 (pName IntKind.i64.wrap at_ r.name ⟨[], ks, false⟩))))) := rfl
 have hk2 : ∀ k ∈ (pName IntKind.i64.wrap at_ r.name ⟨[], ks, false⟩).ks, k.name.length ≤ 140737488355328 := fun k hk' => by rcases hl.2.2 k hk' with h | h; exact hk k h; omega
 refine Fn.enter Tryz.func116 rfl rfl rfl rfl (Holds.nil w) ?_
 refine W.go ?_
 refine W.bx rfl (vt rfl) rfl fun b1 => ?_
 refine W.go ?_
 refine W.q (O.call ⟨rfl, rfl⟩ (AV.cons (vt rfl) (AV.nil)) (fun _ w hw => rr_May _ w (by omega) (by omega))) ?_
 refine W.go ?_
 refine CW.cond (vt rfl) (fun hc1 => ?_) (fun hc1 => ?_)
 ·try simp only [sk] at hc1
  refine W.go ?_
  refine ⟨_, [], (RVs.tmp rfl (RVs.tmp rfl (RVs.tmp rfl RVs.nil))), List.nil_sublist _, ?_⟩
  rw [rrPut, putRr, if_neg (by simp [hc1])]
  exact ⟨none, 0, [], rfl, OwnOk.nil, rfl⟩
 try simp only [sk] at hc1
 have h3 : r.text.length ≤ 100000 := Nat.le_trans (may_text hc1) (by decide)
 have hd := pData_len at_ r (pNum 0 2 (pNum r.ttl 4 (pNum 1 2 (pNum r.type 2 (pName IntKind.i64.wrap at_ r.name ⟨[], ks, false⟩))))) h3
 refine W.go ?_
 refine W.p (O.bd (hv := PV.cons (vt rfl) (PV.cons (vt rfl) (PV.nil)))) ?_
 refine W.bx rfl (vt rfl) rfl fun b2 => ?_
 refine W.go ?_
 refine W.callS (first := []) (cap := []) (PenO b2 at_ ⟨[], ks, false⟩ a c :: RrH b1 r) rfl (vt rfl) (AV.cons (vt rfl) (AV.cons (vt rfl) (AV.nil))) (fun w hu hh => Fn.frame (Lf := PenH b2 at_ ⟨[], ks, false⟩ a c) hh (pen_name r.name w (h.lies.step hu (List.Sublist.cons_cons _ (List.nil_sublist _))) ⟨fun q hq => hh.has q (List.mem_append_left _ hq), hh.nd.sublist (List.sublist_append_left _ _)⟩ (by simp only; omega) hk h1 (by simp))) ?_; rintro _ _ ⟨_, rfl, a1, c1, L1, pr1, ow1, rfl⟩; rw [List.append_assoc]
 refine W.go ?_
 refine W.callS (first := []) (cap := []) (PenH b2 at_ (pName IntKind.i64.wrap at_ r.name ⟨[], ks, false⟩) a1 c1) rfl (vt rfl) (AV.cons (vt rfl) (AV.cons (vt rfl) (AV.cons (vt rfl) (AV.nil)))) (fun w hu hh => pen_num _ 2 w hh (by decide) (by omega)) ?_; rintro _ _ rfl
 refine W.go ?_
 refine W.callS (first := []) (cap := []) (PenH b2 at_ (pNum r.type 2 (pName IntKind.i64.wrap at_ r.name ⟨[], ks, false⟩)) a1 c1) rfl (vt rfl) (AV.cons (vt rfl) (AV.cons (vt rfl) (AV.cons (vt rfl) (AV.nil)))) (fun w hu hh => pen_num _ 2 w hh (by decide) (by rw [hpn]; omega)) ?_; rintro _ _ rfl
 refine W.go ?_
 refine W.callS (first := []) (cap := []) (PenH b2 at_ (pNum 1 2 (pNum r.type 2 (pName IntKind.i64.wrap at_ r.name ⟨[], ks, false⟩))) a1 c1) rfl (vt rfl) (AV.cons (vt rfl) (AV.cons (vt rfl) (AV.cons (vt rfl) (AV.nil)))) (fun w hu hh => pen_num _ 4 w hh (by decide) (by rw [hpn, hpn]; omega)) ?_; rintro _ _ rfl
 refine W.go ?_
 refine W.callS (first := []) (cap := []) (PenH b2 at_ (pNum r.ttl 4 (pNum 1 2 (pNum r.type 2 (pName IntKind.i64.wrap at_ r.name ⟨[], ks, false⟩)))) a1 c1) rfl (vt rfl) (AV.cons (vt rfl) (AV.cons (vt rfl) (AV.cons (vt rfl) (AV.nil)))) (fun w hu hh => pen_num _ 2 w hh (by decide) (by omega)) ?_; rintro _ _ rfl
 refine W.go ?_
 refine W.callS (first := []) (cap := []) (PenH b2 at_ (pNum 0 2 (pNum r.ttl 4 (pNum 1 2 (pNum r.type 2 (pName IntKind.i64.wrap at_ r.name ⟨[], ks, false⟩))))) a1 c1 ++ RrH b1 r) rfl (vt rfl) (AV.cons (vt rfl) (AV.cons (vt rfl) (AV.nil))) (fun w hu hh => pen_data r w (pr1.lies h.lies hu (List.Sublist.refl _)) hh (by show (pName _ _ _ _).ks.length ≤ _; omega) hk2 h2 h3 (by omega)) ?_; rintro _ _ ⟨a2, c2, L2, pr2, rfl⟩
 refine W.go ?_
 refine CW.cond (vt rfl) (fun hc2 => ?_) (fun hc2 => ?_)
 ·try simp only [sk] at hc2
  have hno : putRr at_ ks r = none := by rcases pAll_eq wr_in2 (wrap_in at_ (by omega)) (ks := ks) hc1 with ⟨_, e⟩ | ⟨e, _⟩; exact e; rw [hpd, hc2] at e; cases e
  refine W.go ?_
  refine ⟨_, [], (RVs.tmp rfl (RVs.tmp rfl (RVs.tmp rfl RVs.nil))), List.nil_sublist _, ?_⟩
  rw [rrPut, hno]
  exact ⟨none, 0, [], rfl, OwnOk.nil, rfl⟩
 try simp only [sk] at hc2
 have hyes := (pAll_eq wr_in2 (wrap_in at_ (by omega)) (ks := ks) hc1).resolve_left (fun h => by rw [hpd, hc2] at h; cases h.1)
 rw [hpd] at hyes
 obtain ⟨o, sp, rfl, hok, hSub⟩ := pr_fin pr1 pr2 (ow1 (pAll_head (by rw [hpd]; exact hc2)))
 refine W.go ?_
 refine W.p O.slcL ?_
 refine W.go ?_
 refine CW.draw 14 rfl (by kernel_rfl) ?_
 refine WQ.p O.mv ?_
 refine WQ.p O.mv ?_
 refine WQ.p O.len ?_
 refine WQ.q (O.call ⟨rfl, rfl⟩ (AV.cons (vt rfl) (AV.cons (vt rfl) (AV.nil))) (fun _ w hw => be_Bytes _ 2 _ (by decide))) ?_
 refine WQ.p O.addS ?_
 refine WQ.p O.mv ?_
 refine WQ.p O.addS ?_
 refine WQ.p O.mv ?_
 refine WQ.p O.nc ?_
 first | refine WQ.p O.fb ?_ | refine WQ.p O.fa ?_
 refine WQ.p O.ld ?_
 refine WQ.p O.as ?_
 refine WQ.p O.as ?_
 refine WQ.p O.as ?_
 refine WQ.nil ?_
 refine WL.nil (Q.tn ?_)
 refine CW.ret ?_
 refine ⟨_, rowL o 167 (flat encK (pData IntKind.i64.wrap at_ r (pNum 0 2 (pNum r.ttl 4 (pNum 1 2 (pNum r.type 2 (pName IntKind.i64.wrap at_ r.name ⟨[], ks, false⟩)))))).ks sp), (RVs.tmp rfl (RVs.tmp rfl (RVs.tmp rfl RVs.nil))), (by repeat (first | exact List.Sublist.refl _ | exact hSub _ | exact List.sublist_append_left _ _ | exact List.nil_sublist _ | refine List.Sublist.append (List.Sublist.refl _) ?_ | apply List.Sublist.cons_cons | apply List.Sublist.cons | exact List.sublist_append_left _ _ | refine List.Sublist.trans ?_ (List.sublist_append_right _ _))), ?_⟩
 rw [rrPut, hyes.2]
 exact ⟨o, c2, sp, rfl, hok, rfl⟩
end Go.Proofs.YtfmdaijkgjkmpaaGreatDoor
