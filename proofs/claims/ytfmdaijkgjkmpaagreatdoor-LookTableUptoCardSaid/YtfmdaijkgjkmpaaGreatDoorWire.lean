/- Several texts in one (Wire). Their conditions are their own. -/
import Derived.Test.YtfmdaijkgjkmpaaGreatDoorCv
import Derived.Test.YtfmdaijkgjkmpaaGreatDoorPRL
import Derived.Test.YtfmdaijkgjkmpaaGreatDoorLaw0
set_option linter.unusedVariables false
set_option linter.unusedSimpArgs false
namespace Go.Proofs.YtfmdaijkgjkmpaaGreatDoor
open Go Go.RowKit
theorem num_step {s : List UInt8} {i x : Int} (h0 : 0 ≤ i) (h1 : i < s.length) (hn : s.length ≤ 7) (hx : x = numI (s.take i.toNat)) :
  bits .or .i64 (IntKind.i64.wrap (x * 2 ^ (8 : Int).toNat)) ((s.getD i.toNat 0).toNat : Int) = numI (s.take (i + 1).toNat) := by
 have hb := (s.getD i.toNat 0).toNat_lt
 have hl : (s.take i.toNat).length ≤ 6 := by rw [List.length_take]; omega
 have hx2 := numI_bd (s.take i.toNat)
 have hp : (256 : Int) ^ (s.take i.toNat).length ≤ 256 ^ 6 := p256 hl
 have e6 : (256 : Int) ^ 6 = 281474976710656 := by decide
 rw [← hx] at hx2
 have e8 : (2 : Int) ^ (8 : Int).toNat = 256 := by decide
 rw [e8, wrap_in _ (by omega), or_add 8 (by decide) (by omega) (by omega) (by omega) (by omega) (by omega), take_at' 0 h0 h1, numI_app, ← hx]
 simp only [List.length_cons, List.length_nil, Nat.zero_add, Int.pow_one, numI_one]
set_option maxRecDepth 100000 in
theorem be_Number (s : List UInt8) (w : World) (hn : s.length ≤ 7) : Fn Tryz.prog 34 [.string (S s)] w [] fun v L' => v = .int .i64 (numI s) ∧ L' = [] := by
 refine Fn.enter Tryz.func34 rfl rfl rfl rfl (Holds.nil w) ?_
 refine CW.seq ?_
 refine CW.region ?_
 refine W.p O.as ?_
 refine WL.nil (Q.tn ?_)
 refine CW.seq ?_
 refine CW.region ?_
 refine W.p O.as ?_
 refine WL.nil (Q.tn ?_)
 refine CW.seq ?_
 refine CW.seq ?_
 refine CW.region ?_
 refine W.p O.mv ?_
 refine W.cvSB rfl (vt rfl) fun b1 c1 sp1 le1 => ?_
 refine W.go ?_
 refine CW.loopA (X := Int × Int) (fun ⟨i, x⟩ => [(3, true, .int .i64 x), (7, true, .slice (some ⟨b1, 0, none⟩) s.length c1), (8, true, .int .i64 s.length), (9, true, .int .i64 i)]) (fun ⟨i, x⟩ => [(b1, .cells (flat encB s sp1).toArray 5 (c1, c1 + 1))]) (fun ⟨i, x⟩ => 0 ≤ i ∧ i ≤ s.length ∧ x = numI (s.take i.toNat)) (fun ⟨i, x⟩ => (s.length - i).toNat) (0, 0) ?_ ?_
 ·exact ⟨by omega, by omega, rfl⟩
 rintro ⟨i, x⟩ hI
 try dsimp only at hI ⊢
 obtain ⟨h0, h1, hx⟩ := hI
 refine W.go ?_
 refine CW.cond (vt rfl) (fun hc1 => ?_) (fun hc1 => ?_)
 ·try simp only [sk] at hc1
  refine W.go ?_
  refine W.p O.shl ?_
  refine W.go ?_
  first | refine W.p O.cvB ?_ | refine W.p O.cv ?_
  refine W.p O.or ?_
  refine W.go ?_
  refine nextA (_, _) ?_ ?_
  ·try dsimp only
   exact ⟨by omega, by omega, num_step h0 hc1 hn hx⟩
  ·try dsimp only
   omega
 try simp only [sk] at hc1
 refine W.go ?_
 refine ⟨_, [], (RVs.tmp rfl RVs.nil), List.nil_sublist _, ?_⟩
 refine ⟨?_, rfl⟩
 rw [hx, show i.toNat = s.length by omega, List.take_length]; rfl
abbrev RdO (b : Nat) (s : List UInt8) (p r f : Int) (v : Value) : Nat × Obj := (b, .cells [.string (S s), .int .i64 p, .int .i64 r, .int .i64 f, v].toArray 196 (0, 0))
/-- a reading, and its part of the heap -/
def Rgs (b : Nat) (s : List UInt8) (g : GS) (L : Heap) : Prop :=
 ∃ o c sp, OwnOk o c 1 g.ls.length (List.length sp) ∧ L = rowL o 9 (flat encS g.ls sp) ++ [RdO b s g.at_ g.row g.fin (.slice (oa o) g.ls.length c)]
set_option maxRecDepth 100000 in
theorem rd_take {b : Nat} {s : List UInt8} {g : GS} {Lb : Heap} (k : Int) (w : World) (hR : Rgs b s g Lb) (hL : Holds Lb w) (hs : s.length ≤ 140737488355328) (h0 : 0 ≤ g.at_) (hk : 0 ≤ k ∧ k ≤ 255) :
  Fn Tryz.prog 156 [.pointer (some ⟨b, 0, none⟩), .int .i64 k] w Lb fun v L' => v = .tuple #[.string (S (takeR s g k).1), .bool (takeR s g k).2.1] ∧ Rgs b s (takeR s g k).2.2 L' := by
 obtain ⟨o, c, sp, hok, rfl⟩ := hR
 refine Fn.enter Tryz.func156 rfl rfl rfl rfl hL ?_
 refine W.go ?_
 refine CW.draw 12 rfl (by kernel_rfl) ?_
 refine WQ.p O.mv ?_
 refine WQ.p O.nc ?_
 first | refine WQ.p O.fb ?_ | refine WQ.p O.fa ?_
 refine WQ.p O.ld ?_
 refine WQ.p O.mv ?_
 refine WQ.p O.nc ?_
 first | refine WQ.p O.fb ?_ | refine WQ.p O.fa ?_
 refine WQ.p O.ld ?_
 refine WQ.p O.len ?_
 refine WQ.p O.mv ?_
 first | refine WQ.p O.subN ?_ | refine WQ.p O.sub ?_
 refine WQ.p O.gtr ?_
 refine WQ.nil ?_
 refine WL.nil (Q.tn ?_)
 refine CW.cond (vt rfl) (fun hc1 => ?_) (fun hc1 => ?_)
 ·try simp only [sk] at hc1
  refine W.go ?_
  refine ⟨_, _, RVs.tmp rfl (RVs.tmp rfl RVs.nil), List.Sublist.refl _, ?_⟩
  rw [takeR, if_pos hc1]
  exact ⟨rfl, _, _, _, hok, rfl⟩
 try simp only [sk] at hc1
 refine W.go ?_
 first | refine W.st (vt rfl) (vt rfl) rfl ?_ | refine W.st (u := .int _ _) (vt rfl) (vt rfl) rfl ?_
 refine W.go ?_
 refine CW.draw 17 rfl (by kernel_rfl) ?_
 refine WQ.p O.mv ?_
 refine WQ.p O.nc ?_
 first | refine WQ.p O.fb ?_ | refine WQ.p O.fa ?_
 refine WQ.p O.ld ?_
 refine WQ.p O.mv ?_
 refine WQ.p O.nc ?_
 first | refine WQ.p O.fb ?_ | refine WQ.p O.fa ?_
 refine WQ.p O.ld ?_
 refine WQ.p O.mv ?_
 first | refine WQ.p O.subN ?_ | refine WQ.p O.sub ?_
 refine WQ.p O.mv ?_
 refine WQ.p O.nc ?_
 first | refine WQ.p O.fb ?_ | refine WQ.p O.fa ?_
 refine WQ.p O.ld ?_
 refine WQ.p O.slc ?_
 refine WQ.p O.as ?_
 refine WQ.p O.as ?_
 refine WQ.nil ?_
 refine WL.nil (Q.tn ?_)
 refine CW.ret ?_
 refine ⟨_, _, RVs.tmp rfl (RVs.tmp rfl RVs.nil), List.Sublist.refl _, ?_⟩
 rw [takeR, if_neg hc1]
 refine ⟨?_, _, _, _, hok, rfl⟩
 rw [slc, show g.at_ + k - k = g.at_ by omega]; rfl
theorem wrap_hi {k : Int} (h : 0 ≤ k ∧ k ≤ 255) : IntKind.i64.wrap (k * 2 ^ (8 : Int).toNat) = k * 256 := by
 have e8 : (2 : Int) ^ (8 : Int).toNat = 256 := by decide
 rw [e8, wrap_in _ (by omega)]
set_option maxRecDepth 100000 in
theorem rd_label {b : Nat} {s : List UInt8} {g : GS} {Lb : Heap} (k : Int) (w : World) (hR : Rgs b s g Lb) (hL : Holds Lb w) (hs : s.length ≤ 140737488355328) (h0 : 0 ≤ g.at_) (hk : 0 ≤ k ∧ k ≤ 255) (h8 : g.ls.length ≤ 8) :
  Fn Tryz.prog 157 [.pointer (some ⟨b, 0, none⟩), .int .i64 k] w Lb fun v L' => v = .int .i64 (labR s g k).1 ∧ Rgs b s (labR s g k).2 L' := by
 have htl := takeR_len (s := s) h0 hk.1
 have htg := takeR_ls s g k
 refine Fn.enter Tryz.func157 rfl rfl rfl rfl hL ?_
 refine W.go ?_
 refine W.callS (first := []) (cap := []) _ rfl (vt rfl) (AV.cons (vt rfl) (AV.cons (vt rfl) (AV.nil))) (fun w hu hh => rd_take k w hR hh hs h0 hk) ?_; rintro _ _ ⟨rfl, o2, c2, sp2, hk2, rfl⟩; have nk2 := hk2.nk; have hl8 : (takeR s g k).2.2.ls.length ≤ 8 := by rw [htg.1]; exact h8
 refine W.go ?_
 refine CW.cond (vt rfl) (fun hc1 => ?_) (fun hc1 => ?_)
 ·try simp only [sk] at hc1
  refine W.go ?_
  refine ⟨_, _, RVs.tmp rfl RVs.nil, List.Sublist.refl _, ?_⟩
  rw [labR, if_pos hc1]
  exact ⟨rfl, _, _, _, hk2, rfl⟩
 try simp only [sk] at hc1
 refine W.go ?_
 refine W.q (O.call ⟨rfl, rfl⟩ (AV.cons (vt rfl) (AV.nil)) (fun _ w hw => nm_Fold _ w (by omega))) ?_
 refine W.go ?_
 refine W.q (O.call ⟨rfl, rfl⟩ (AV.cons (vt rfl) (AV.nil)) (fun _ w hw => nm_Label _ w (by simp only [fold, List.length_map]; omega))) ?_
 refine W.go ?_
 refine CW.cond (vt rfl) (fun hc2 => ?_) (fun hc2 => ?_)
 ·try simp only [sk] at hc2
  refine W.go ?_
  refine ⟨_, _, RVs.tmp rfl RVs.nil, List.Sublist.refl _, ?_⟩
  have e : labOk (fold (takeR s g k).1) = false ∨ (takeR s g k).2.2.ls.length = 8 := by rcases hc2 with h | h; exact .inl h; exact .inr (by omega)
  rw [labR, if_neg (by simpa using hc1), if_pos e]
  exact ⟨rfl, _, _, _, hk2, rfl⟩
 try simp only [sk] at hc2
 refine CW.skip (Q.tn ?_)
 refine CW.seq ?_
 refine CW.region ?_
 refine W.p O.mv ?_
 refine W.p O.mv ?_
 refine W.p O.nc ?_
 first | refine W.p O.fb ?_ | refine W.p O.fa ?_
 refine W.p O.ld ?_
 refine W.p O.mv ?_
 refine W.bs encS [_] rfl (PV.cons (vt rfl) (PV.nil)) rfl rfl rfl (by decide) rfl fun b1 => ?_
 refine W.ap rfl (vt rfl) (vt rfl) (by first | rfl | omega) (by first | rfl | omega) rfl (by first | assumption | exact OwnOk.nil | exact OwnOk.lit) (by first | omega | (simp; omega)) fun o1 c1 sp1 ok1 ne1 gt1 => ?_
 have nk1 := ok1.nk; have le1 := ok1.2.2.1; try simp only [List.length_append, List.length_cons, List.length_nil] at le1
 refine W.go ?_
 first | refine W.st (vt rfl) (vt rfl) rfl ?_ | refine W.st (u := .slice _ _ _) (vt rfl) (vt rfl) rfl ?_
 refine W.go ?_
 refine ⟨_, rowL o1 9 (flat encS ((takeR s g k).2.2.ls ++ [fold (takeR s g k).1]) sp1) ++ [RdO b s (takeR s g k).2.2.at_ (takeR s g k).2.2.row (takeR s g k).2.2.fin (.slice (oa o1) ((takeR s g k).2.2.ls ++ [fold (takeR s g k).1]).length c1)], (RVs.tmp rfl RVs.nil), (by repeat (first | exact List.Sublist.refl _ | exact hSub _ | exact List.sublist_append_left _ _ | exact List.nil_sublist _ | refine List.Sublist.append (List.Sublist.refl _) ?_ | apply List.Sublist.cons_cons | apply List.Sublist.cons | exact List.sublist_append_left _ _ | refine List.Sublist.trans ?_ (List.sublist_append_right _ _))), ?_⟩
 have e : ¬ (labOk (fold (takeR s g k).1) = false ∨ (takeR s g k).2.2.ls.length = 8) := by rintro (h | h); rw [h] at hc2; exact absurd hc2.1 (by decide); omega
 rw [labR, if_neg (by simpa using hc1), if_neg e]
 refine ⟨rfl, _, _, _, by assumption, rfl⟩
set_option maxRecDepth 100000 in
theorem rd_jump {b : Nat} {s : List UInt8} {g : GS} {Lb : Heap} (k : Int) (w : World) (hR : Rgs b s g Lb) (hL : Holds Lb w) (hs : s.length ≤ 140737488355328) (h0 : 0 ≤ g.at_) (hk : 0 ≤ k ∧ k ≤ 255) :
  Fn Tryz.prog 158 [.pointer (some ⟨b, 0, none⟩), .int .i64 k] w Lb fun v L' => v = .int .i64 (jumR s g k).1 ∧ Rgs b s (jumR s g k).2 L' := by
 have htl := takeR_len (s := s) h0 (show (0 : Int) ≤ 1 by decide)
 have htg := takeR_ls s g 1
 have hnb := numI_1 (show (takeR s g 1).1.length ≤ 1 from htl)
 have hw8 := wrap_hi hk
 refine Fn.enter Tryz.func158 rfl rfl rfl rfl hL ?_
 refine W.go ?_
 refine W.callS (first := []) (cap := []) _ rfl (vt rfl) (AV.cons (vt rfl) (AV.cons (vt rfl) (AV.nil))) (fun w hu hh => rd_take 1 w hR hh hs h0 (by decide)) ?_; rintro _ _ ⟨rfl, o2, c2, sp2, hk2, rfl⟩
 refine W.go ?_
 refine CW.cond (vt rfl) (fun hc1 => ?_) (fun hc1 => ?_)
 ·try simp only [sk] at hc1
  refine W.go ?_
  refine ⟨_, _, RVs.tmp rfl RVs.nil, List.Sublist.refl _, ?_⟩
  rw [jumR, if_pos hc1]
  exact ⟨rfl, _, _, _, hk2, rfl⟩
 try simp only [sk] at hc1
 refine W.go ?_
 refine W.p O.shl ?_
 refine W.go ?_
 refine W.q (O.call ⟨rfl, rfl⟩ (AV.cons (vt rfl) (AV.nil)) (fun _ w hw => be_Number _ w (by omega))) ?_
 refine W.go ?_
 refine CW.cond (vt rfl) (fun hc2 => ?_) (fun hc2 => ?_)
 ·try simp only [sk] at hc2
  refine W.go ?_
  refine ⟨_, _, RVs.tmp rfl RVs.nil, List.Sublist.refl _, ?_⟩
  rw [hw8] at hc2
  rw [jumR, if_neg (by simpa using hc1), if_pos hc2]
  exact ⟨rfl, _, _, _, hk2, rfl⟩
 try simp only [sk] at hc2
 refine W.go ?_
 refine CW.cond (vt rfl) (fun hc3 => ?_) (fun hc3 => ?_)
 ·try simp only [sk] at hc3
  refine W.go ?_
  first | refine W.st (vt rfl) (vt rfl) rfl ?_ | refine W.st (u := .int _ _) (vt rfl) (vt rfl) rfl ?_
  refine W.go ?_
  first | refine W.st (vt rfl) (vt rfl) rfl ?_ | refine W.st (u := .int _ _) (vt rfl) (vt rfl) rfl ?_
  refine W.go ?_
  first | refine W.st (vt rfl) (vt rfl) rfl ?_ | refine W.st (u := .int _ _) (vt rfl) (vt rfl) rfl ?_
  refine W.go ?_
  refine ⟨_, _, RVs.tmp rfl RVs.nil, List.Sublist.refl _, ?_⟩
  rw [hw8] at hc2 ⊢
  rw [jumR, if_neg (by simpa using hc1), if_neg hc2, if_pos hc3]
  exact ⟨rfl, _, _, _, hk2, rfl⟩
 try simp only [sk] at hc3
 refine W.go ?_
 first | refine W.st (vt rfl) (vt rfl) rfl ?_ | refine W.st (u := .int _ _) (vt rfl) (vt rfl) rfl ?_
 refine W.go ?_
 first | refine W.st (vt rfl) (vt rfl) rfl ?_ | refine W.st (u := .int _ _) (vt rfl) (vt rfl) rfl ?_
 refine W.go ?_
 refine ⟨_, _, RVs.tmp rfl RVs.nil, List.Sublist.refl _, ?_⟩
 rw [hw8] at hc2 ⊢
 rw [jumR, if_neg (by simpa using hc1), if_neg hc2, if_neg hc3]
 exact ⟨rfl, _, _, _, hk2, rfl⟩
set_option maxRecDepth 100000 in
theorem rd_step {b : Nat} {s : List UInt8} {g : GS} {Lb : Heap} (w : World) (hR : Rgs b s g Lb) (hL : Holds Lb w) (hs : s.length ≤ 140737488355328) (h0 : 0 ≤ g.at_) (h8 : g.ls.length ≤ 8) :
  Fn Tryz.prog 144 [.pointer (some ⟨b, 0, none⟩)] w Lb fun v L' => v = .tuple #[.bool (stepR s g).1, .int .i64 (stepR s g).2.1] ∧ Rgs b s (stepR s g).2.2 L' := by
 have htl := takeR_len (s := s) h0 (show (0 : Int) ≤ 1 by decide)
 have htg := takeR_ls s g 1
 have hta := takeR_at (s := s) h0 (show (0 : Int) ≤ 1 by decide)
 have hnb := numI_1 (show (takeR s g 1).1.length ≤ 1 from htl)
 refine Fn.enter Tryz.func144 rfl rfl rfl rfl hL ?_
 refine W.go ?_
 refine W.callS (first := []) (cap := []) _ rfl (vt rfl) (AV.cons (vt rfl) (AV.cons (vt rfl) (AV.nil))) (fun w hu hh => rd_take 1 w hR hh hs h0 (by decide)) ?_; rintro _ _ ⟨rfl, hR2⟩
 refine W.go ?_
 refine CW.cond (vt rfl) (fun hc1 => ?_) (fun hc1 => ?_)
 ·try simp only [sk] at hc1
  refine W.go ?_
  refine ⟨_, _, RVs.tmp rfl (RVs.tmp rfl RVs.nil), List.Sublist.refl _, ?_⟩
  rw [stepR, if_pos hc1]
  exact ⟨rfl, hR2⟩
 try simp only [sk] at hc1
 refine W.go ?_
 refine W.q (O.call ⟨rfl, rfl⟩ (AV.cons (vt rfl) (AV.nil)) (fun _ w hw => be_Number _ w (by omega))) ?_
 refine W.go ?_
 refine CW.cond (vt rfl) (fun hc2 => ?_) (fun hc2 => ?_)
 ·try simp only [sk] at hc2
  refine W.go ?_
  refine ⟨_, _, RVs.tmp rfl (RVs.tmp rfl RVs.nil), List.Sublist.refl _, ?_⟩
  rw [stepR, if_neg (by simpa using hc1), if_pos hc2]
  exact ⟨rfl, hR2⟩
 try simp only [sk] at hc2
 refine W.go ?_
 refine CW.cond (vt rfl) (fun hc3 => ?_) (fun hc3 => ?_)
 ·try simp only [sk] at hc3
  refine W.go ?_
  refine W.callS (first := []) (cap := []) _ rfl (vt rfl) (AV.cons (vt rfl) (AV.cons (vt rfl) (AV.nil))) (fun w hu hh => rd_label _ w hR2 hh hs hta.1 hnb (by rw [htg.1]; exact h8)) ?_; rintro _ _ ⟨rfl, hR3⟩
  refine W.go ?_
  refine ⟨_, _, RVs.tmp rfl (RVs.tmp rfl RVs.nil), List.Sublist.refl _, ?_⟩
  rw [stepR, if_neg (by simpa using hc1), if_neg hc2, if_pos hc3]
  exact ⟨rfl, hR3⟩
 try simp only [sk] at hc3
 refine W.go ?_
 refine CW.cond (vt rfl) (fun hc4 => ?_) (fun hc4 => ?_)
 ·try simp only [sk] at hc4
  refine W.go ?_
  refine W.callS (first := []) (cap := []) _ rfl (vt rfl) (AV.cons (vt rfl) (AV.cons (vt rfl) (AV.nil))) (fun w hu hh => rd_jump _ w hR2 hh hs hta.1 hnb) ?_; rintro _ _ ⟨rfl, hR3⟩
  refine W.go ?_
  refine ⟨_, _, RVs.tmp rfl (RVs.tmp rfl RVs.nil), List.Sublist.refl _, ?_⟩
  rw [stepR, if_neg (by simpa using hc1), if_neg hc2, if_neg hc3, if_pos hc4]
  exact ⟨rfl, hR3⟩
 try simp only [sk] at hc4
 refine W.go ?_
 refine ⟨_, _, RVs.tmp rfl (RVs.tmp rfl RVs.nil), List.Sublist.refl _, ?_⟩
 rw [stepR, if_neg (by simpa using hc1), if_neg hc2, if_neg hc3, if_neg hc4]
 exact ⟨rfl, hR2⟩
abbrev grV (r : GR) : Value := .tuple #[.string (S (grN r)), .int .i64 (grT r), .int .i64 (grE r)]
theorem labs_sum : ∀ {ls : List (List UInt8)}, ls.all labOk = true → ls.flatten.length ≤ 8 * ls.length
 | [], _ => by simp
 | l :: r, h => by
  simp only [List.all_cons, Bool.and_eq_true] at h
  have := labs_sum h.2
  have := (labOk_len h.1).2
  rw [List.flatten_cons, List.length_append, List.length_cons]; omega
set_option maxRecDepth 100000 in
theorem wr_Get (s : List UInt8) (p : Int) (w : World) (hs : s.length ≤ 140737488355328) : Fn Tryz.prog 130 [.string (S s), .int .i64 p] w [] fun v L' => v = grV (getName s p) ∧ L' = [] := by
 refine Fn.enter Tryz.func130 rfl rfl rfl rfl (Holds.nil w) ?_
 refine W.go ?_
 refine CW.cond (vt rfl) (fun hc1 => ?_) (fun hc1 => ?_)
 ·try simp only [sk] at hc1
  refine W.go ?_
  refine ⟨_, [], (RVs.tmp rfl (RVs.tmp rfl (RVs.tmp rfl RVs.nil))), List.nil_sublist _, ?_⟩
  refine ⟨?_, rfl⟩
  rw [getName_neg s hc1]; rfl
 try simp only [sk] at hc1
 refine W.go ?_
 refine W.p (O.bd (hv := PV.cons (vt rfl) (PV.cons (vt rfl) (PV.cons (vt rfl) (PV.cons (vt rfl) (PV.nil)))))) ?_
 refine W.bx rfl (vt rfl) rfl fun b1 => ?_
 refine W.go ?_
 refine CW.loopA (X := GS × Heap) (fun ⟨g, Lb⟩ => [(7, true, .pointer (some ⟨b1, 0, none⟩))]) (fun ⟨g, Lb⟩ => Lb) (fun ⟨g, Lb⟩ => Rgs b1 s g Lb ∧ 0 ≤ g.at_ ∧ g.ls.all labOk = true ∧ g.ls.length ≤ 8 ∧ (∀ r, Got s g r → Got s (GS.of p) r)) (fun ⟨g, Lb⟩ => measG s g) (GS.of p, [RdO b1 s p p (-1) (.slice none 0 0)]) ?_ ?_
 ·exact ⟨⟨none, 0, [], OwnOk.nil, rfl⟩, by simp only; omega, rfl, by simp, fun _ h => h⟩
 rintro ⟨g, Lb⟩ hI
 try dsimp only at hI ⊢
 obtain ⟨hR, h0, hl, h8, hg⟩ := hI
 have hG := stepR_G (s := s) h0
 have hA := stepR_at (s := s) h0
 refine W.go ?_
 refine W.callS (first := []) (cap := []) _ rfl (vt rfl) (AV.cons (vt rfl) (AV.nil)) (fun w hu hh => rd_step w hR hh hs h0 h8) ?_; rintro _ _ ⟨rfl, o2, c2, sp2, hk2, rfl⟩; have nk2 := hk2.nk
 refine W.go ?_
 refine CW.cond (vt rfl) (fun hc2 => ?_) (fun hc2 => ?_)
 ·try simp only [sk] at hc2
  refine W.go ?_
  refine ⟨_, [], (RVs.tmp rfl (RVs.tmp rfl (RVs.tmp rfl RVs.nil))), List.nil_sublist _, ?_⟩
  refine ⟨?_, rfl⟩
  rw [if_pos (by simpa using hc2)] at hG
  rw [getName_eq (by omega) (hg _ (Got.stop hG))]; rfl
 try simp only [sk] at hc2
 refine W.go ?_
 refine CW.cond (vt rfl) (fun hc3 => ?_) (fun hc3 => ?_)
 ·try simp only [sk] at hc3
  refine CW.exit (Q.bo rfl (Q.te (Q.bx (Q.tn ?_))))
  refine nextA ((stepR s g).2.2, _) ?_ ?_
  ·try dsimp only
   rw [if_neg (by simpa using hc2), if_pos hc3] at hG
   obtain ⟨a, b, c, d⟩ := stepG_lt hG h0 hl h8
   exact ⟨⟨_, _, _, hk2, rfl⟩, b, c, d, fun r h => hg r (Got.step hG h)⟩
  ·try dsimp only
   rw [if_neg (by simpa using hc2), if_pos hc3] at hG; exact (stepG_lt hG h0 hl h8).1
 try simp only [sk] at hc3
 have hA2 : 0 ≤ (stepR s g).2.2.at_ ∧ (stepR s g).2.2.fin = g.fin ∧ (stepR s g).2.2.ls = g.ls := by rcases hA with h | h | h; exact h; rw [hc3] at h; cases h; exact absurd hc2 h
 have hsum := labs_sum hl
 refine W.go ?_
 refine CW.cond (vt rfl) (fun hc4 => ?_) (fun hc4 => ?_)
 ·try simp only [sk] at hc4
  refine W.go ?_
  first | refine W.st (vt rfl) (vt rfl) rfl ?_ | refine W.st (u := .int _ _) (vt rfl) (vt rfl) rfl ?_
  refine W.go ?_
  refine CW.draw 12 rfl (by kernel_rfl) ?_
  refine WQ.p O.mv ?_
  refine WQ.p O.nc ?_
  first | refine WQ.p O.fb ?_ | refine WQ.p O.fa ?_
  refine WQ.p O.ld ?_
  refine WQ.q (O.call ⟨rfl, rfl⟩ (AV.cons (vt rfl) (AV.cons (vt rfl) (AV.nil))) (fun _ w hw => st_Join1 _ 46 _ _ w (RowL.h _ hw) hk2.2.2.1 (by rw [hA2.2.2]; omega))) ?_
  refine WQ.p O.mv ?_
  refine WQ.p O.nc ?_
  first | refine WQ.p O.fb ?_ | refine WQ.p O.fa ?_
  refine WQ.p O.ld ?_
  refine WQ.p O.as ?_
  refine WQ.p O.as ?_
  refine WQ.p O.as ?_
  refine WQ.nil ?_
  refine WL.nil (Q.tn ?_)
  refine W.go ?_
  refine ⟨_, [], (RVs.tmp rfl (RVs.tmp rfl (RVs.tmp rfl RVs.nil))), List.nil_sublist _, ?_⟩
  refine ⟨?_, rfl⟩
  rw [if_neg (by simpa using hc2), if_neg (by simpa using hc3)] at hG
  rw [getName_eq (by omega) (hg _ (Got.stop hG)), joinB_dot, hA2.2.2, if_pos (by rw [← hA2.2.1]; exact hc4)]; rfl
 try simp only [sk] at hc4
 refine W.go ?_
 refine CW.draw 12 rfl (by kernel_rfl) ?_
 refine WQ.p O.mv ?_
 refine WQ.p O.nc ?_
 first | refine WQ.p O.fb ?_ | refine WQ.p O.fa ?_
 refine WQ.p O.ld ?_
 refine WQ.q (O.call ⟨rfl, rfl⟩ (AV.cons (vt rfl) (AV.cons (vt rfl) (AV.nil))) (fun _ w hw => st_Join1 _ 46 _ _ w (RowL.h _ hw) hk2.2.2.1 (by rw [hA2.2.2]; omega))) ?_
 refine WQ.p O.mv ?_
 refine WQ.p O.nc ?_
 first | refine WQ.p O.fb ?_ | refine WQ.p O.fa ?_
 refine WQ.p O.ld ?_
 refine WQ.p O.as ?_
 refine WQ.p O.as ?_
 refine WQ.p O.as ?_
 refine WQ.nil ?_
 refine WL.nil (Q.tn ?_)
 refine W.go ?_
 refine ⟨_, [], (RVs.tmp rfl (RVs.tmp rfl (RVs.tmp rfl RVs.nil))), List.nil_sublist _, ?_⟩
 refine ⟨?_, rfl⟩
 rw [if_neg (by simpa using hc2), if_neg (by simpa using hc3)] at hG
 rw [getName_eq (by omega) (hg _ (Got.stop hG)), joinB_dot, hA2.2.2, if_neg (by rw [← hA2.2.1]; exact hc4), hA2.2.1]; rfl
end Go.Proofs.YtfmdaijkgjkmpaaGreatDoor

set_option linter.unusedVariables false
set_option linter.unusedSimpArgs false
namespace Go.Proofs.YtfmdaijkgjkmpaaGreatDoor
open Go Go.RowKit
set_option maxRecDepth 100000 in
instance : TSpot Tryz.prog 182 := ⟨⟨_, rfl, rfl, rfl⟩⟩
def mapL (o : Option Nat) (m : List (List UInt8 × Int)) : Heap := match o with | none => [] | some b => [(b, mObj kT kI m)]
theorem kfind_app (ks : List Kn) (k : Kn) (s : List UInt8) : kfind (ks ++ [k]) s = match kfind ks s with | some t => some t | none => if k.name = s then some k.pos else none := by
 induction ks with
 | nil => simp [kfind]
 | cons x r ih =>
  simp only [List.cons_append, kfind]
  by_cases h : x.name = s
  ·simp [h]
  ·simp [h, ih]
theorem knOk_iff (k : Kn) : knOk k = true ↔ k.name ≠ [] ∧ nmMay k.name = true ∧ 0 ≤ k.pos ∧ k.pos < 16384 := by
 simp [knOk, and_assoc]
theorem kn_ok {k : Kn} (h : ((¬k.name = [] ∧ nmMay k.name = true) ∧ ¬k.pos < 0) ∧ ¬16384 ≤ k.pos) : knOk k = true := by
 rw [knOk_iff]; obtain ⟨⟨⟨a1, a2⟩, a3⟩, a4⟩ := h; exact ⟨a1, a2, by omega, by omega⟩
set_option maxRecDepth 100000 in
theorem wr_index (ks : List Kn) (a : Option Addr) (c : Nat) (w : World) (h : In w a (ks.flatMap encK)) (hn : ks.length ≤ 1000000000) (hl : ∀ k ∈ ks, k.name.length ≤ 140737488355328) :
  Fn Tryz.prog 135 [.slice a ks.length c] w [] fun v L' => ∃ o m, v = .tuple #[.map o, .bool (ks.all knOk)] ∧ L' = mapL o m ∧ (ks.all knOk = true → ∃ b, o = some b ∧ ∀ s, mget m s = kfind ks s) := by
 have row := Row.ofE h
 refine Fn.enter Tryz.func135 rfl rfl rfl rfl (Holds.nil w) ?_
 refine CW.seq ?_
 refine CW.region ?_
 refine W.p O.as ?_
 refine W.p O.as ?_
 refine WL.nil (Q.tn ?_)
 refine CW.seq ?_
 refine CW.region ?_
 refine W.mm kT kI rfl fun b1 => ?_
 refine W.go ?_
 refine CW.loopA (X := Int × (List (List UInt8 × Int))) (fun ⟨i, m⟩ => [(4, true, .map (some b1)), (10, true, .slice a ks.length c), (11, true, .int .i64 ks.length), (12, true, .int .i64 i)]) (fun ⟨i, m⟩ => [(b1, mObj kT kI m)]) (fun ⟨i, m⟩ => 0 ≤ i ∧ i ≤ ks.length ∧ (ks.take i.toNat).all knOk = true ∧ ∀ s, mget m s = kfind (ks.take i.toNat) s) (fun ⟨i, m⟩ => (ks.length - i).toNat) (0, []) ?_ ?_
 ·exact ⟨by omega, by omega, rfl, fun s => rfl⟩
 rintro ⟨i, m⟩ hI
 try dsimp only at hI ⊢
 obtain ⟨h0, h1, ha, hm⟩ := hI
 have hb : i < ks.length → (ks.getD i.toNat dK).name.length ≤ 140737488355328 := fun h => hl _ (mem_at dK h0 h)
 refine W.go ?_
 refine CW.cond (vt rfl) (fun hc1 => ?_) (fun hc1 => ?_)
 ·try simp only [sk] at hc1
  refine W.go ?_
  refine W.al rfl rfl fun b2 => ?_
  refine W.st (vt rfl) (vt rfl) rfl ?_
  refine W.go ?_
  refine W.q (O.call ⟨rfl, rfl⟩ (AV.cons (vs rfl) (AV.nil)) (fun _ w hw => nm_May _ w (by omega))) ?_
  refine W.go ?_
  refine CW.cond (vt rfl) (fun hc2 => ?_) (fun hc2 => ?_)
  ·try simp only [sk] at hc2
   refine W.go ?_
   refine ⟨_, [], (RVs.tmp rfl (RVs.tmp rfl RVs.nil)), List.nil_sublist _, ?_⟩
   have hno : ks.all knOk = false := by rw [List.all_eq_false]; exact ⟨_, mem_at dK h0 hc1, by rw [knOk_iff]; rintro ⟨a1, a2, a3, a4⟩; rcases hc2 with ((h | h) | h) | h; exact a1 h; rw [h] at a2; cases a2; omega; omega⟩
   rw [hno]
   exact ⟨none, [], rfl, rfl, fun h => by cases h⟩
  try simp only [sk] at hc2
  refine W.go ?_
  refine W.p (O.bd (hv := PV.cons (vt rfl) (PV.nil))) ?_
  refine W.p (O.lkT (ek := kT) (ev := kI) 0) ?_
  refine W.go ?_
  refine CW.cond (vt rfl) (fun hc3 => ?_) (fun hc3 => ?_)
  ·try simp only [sk] at hc3
   refine W.go ?_
   refine W.p (O.bd (hv := PV.cons (vt rfl) (PV.nil))) ?_
   first | refine W.p O.fb ?_ | refine W.p O.fa ?_
   refine W.p O.ld ?_
   refine W.mu (ek := kT) (ev := kI) (vt rfl) (vt rfl) (vt rfl) ?_
   refine W.go ?_
   refine nextA (_, mput m _ _) ?_ ?_
   ·try dsimp only
    have hk := kn_ok hc2
    refine ⟨by omega, by omega, by rw [take_at' dK h0 hc1, List.all_append, ha]; simp only [List.all_cons, hk, List.all_nil, Bool.and_true], fun s => ?_⟩
    rw [take_at' dK h0 hc1, kfind_app, ← hm s, mget_mput]
    generalize (ks.getD i.toNat dK) = k at *
    by_cases e : s = k.name
    ·subst e; rw [Option.isSome_eq_false_iff, Option.isNone_iff_eq_none] at hc3; simp [hc3]
    ·rw [if_neg e]; cases mget m s <;> simp [Ne.symm e]
   ·try dsimp only
    omega
  try simp only [sk] at hc3
  refine W.go ?_
  refine nextA (_, m) ?_ ?_
  ·try dsimp only
   have hk := kn_ok hc2
   refine ⟨by omega, by omega, by rw [take_at' dK h0 hc1, List.all_append, ha]; simp only [List.all_cons, hk, List.all_nil, Bool.and_true], fun s => ?_⟩
   rw [take_at' dK h0 hc1, kfind_app, ← hm s]
   generalize (ks.getD i.toNat dK) = k at *
   by_cases e : k.name = s
   ·subst e; cases hq : mget m k.name with | none => rw [hq] at hc3; cases hc3 | some t => rfl
   ·cases mget m s <;> simp [e]
  ·try dsimp only
   omega
 try simp only [sk] at hc1
 refine W.go ?_
 refine ⟨_, [(b1, mObj kT kI m)], (RVs.tmp rfl (RVs.tmp rfl RVs.nil)), (by repeat (first | exact List.Sublist.refl _ | exact hSub _ | exact List.sublist_append_left _ _ | exact List.nil_sublist _ | refine List.Sublist.append (List.Sublist.refl _) ?_ | apply List.Sublist.cons_cons | apply List.Sublist.cons | exact List.sublist_append_left _ _ | refine List.Sublist.trans ?_ (List.sublist_append_right _ _))), ?_⟩
 have e : ks.take i.toNat = ks := List.take_of_length_le (by omega)
 rw [e] at ha hm
 rw [ha]
 exact ⟨some b1, m, rfl, rfl, fun _ => ⟨b1, rfl, hm⟩⟩
set_option maxRecDepth 100000 in
theorem wr_Put (at_ : Int) (ks : List Kn) (nm : List UInt8) (a : Option Addr) (c : Nat) (w : World) (h : In w a (ks.flatMap encK)) (hn : ks.length ≤ 1000000000) (hl : ∀ k ∈ ks, k.name.length ≤ 140737488355328) (hs : nm.length ≤ 140737488355328) :
  Fn Tryz.prog 114 [.int .i64 at_, .slice a ks.length c, .string (S nm)] w [] fun v L' => ∃ o c' sp, v = .tuple #[.string (S (nmPut at_ ks nm).1), .slice (oa o) (nmPut at_ ks nm).2.1.length c', .int .i64 (nmPut at_ ks nm).2.2] ∧ OwnOk o c' 2 (nmPut at_ ks nm).2.1.length (List.length sp) ∧ L' = rowL o 167 (flat encK (nmPut at_ ks nm).2.1 sp) := by
 have row := Row.ofE h
 refine Fn.enter Tryz.func114 rfl rfl rfl rfl (Holds.nil w) ?_
 refine W.go ?_
 refine W.callN (first := []) (cap := []) rfl (vt rfl) (AV.cons (vt rfl) (AV.nil)) (fun w hu => wr_index ks a c w (row.h _ w hu) hn hl) ?_; rintro _ _ ⟨om, m, rfl, rfl, hmap⟩
 refine W.go ?_
 refine W.q (O.call ⟨rfl, rfl⟩ (AV.cons (vs rfl) (AV.nil)) (fun _ w hw => nm_May _ w (by omega))) ?_
 refine W.go ?_
 refine CW.cond (vt rfl) (fun hc1 => ?_) (fun hc1 => ?_)
 ·try simp only [sk] at hc1
  refine W.go ?_
  refine ⟨_, [], (RVs.tmp rfl (RVs.tmp rfl (RVs.tmp rfl RVs.nil))), List.nil_sublist _, ?_⟩
  have hbad : (ks.all knOk && decide (0 ≤ at_) && decide (at_ ≤ 65535) && nmMay nm) = false := by rcases hc1 with ((h | h) | h) | h; rw [h]; rfl; rw [decide_eq_false (by omega : ¬ 0 ≤ at_)]; simp; rw [decide_eq_false (by omega : ¬ at_ ≤ 65535)]; simp; rw [h]; simp
  rw [nmPut_bad hbad]
  exact ⟨none, 0, [], rfl, OwnOk.nil, rfl⟩
 try simp only [sk] at hc1
 obtain ⟨⟨⟨hk, ha0⟩, ha1⟩, hmay⟩ := hc1
 obtain ⟨bm, rfl, hm⟩ := hmap hk
 dsimp only [mapL]
 have hok : (ks.all knOk && decide (0 ≤ at_) && decide (at_ ≤ 65535) && nmMay nm) = true := by rw [hk, hmay, decide_eq_true (by omega), decide_eq_true (by omega)]; rfl
 have hlab := nmMay_labs hmay
 refine W.go ?_
 refine W.apN rfl (vt rfl) (vt rfl) (by first | rfl | omega) rfl (by first | omega | (simp; omega)) fun o1 c1 sp1 ok1 ne1 gt1 => ?_
 have nk1 := ok1.nk; have le1 := ok1.2.2.1; try simp only [List.length_append, List.length_cons, List.length_nil] at le1
 refine W.go ?_
 refine CW.loopA (X := (List UInt8) × (List (List UInt8)) × (List UInt8) × (List Kn) × (Option Nat) × Nat × (List Value)) (fun ⟨left, ls, out, all, o, cc, sp⟩ => [(0, true, .int .i64 at_), (9, true, .map (some bm)), (11, true, .slice (oa o) all.length cc), (12, true, .string (S out)), (13, true, .string (S left))]) (fun ⟨left, ls, out, all, o, cc, sp⟩ => rowL o 167 (flat encK all sp) ++ [(bm, mObj kT kI m)]) (fun ⟨left, ls, out, all, o, cc, sp⟩ => OwnOk o cc 2 all.length sp.length ∧ left = joinD ls ∧ ls.all labOk = true ∧ ls.length ≤ 8 ∧ putL ks at_ (labs nm) [] ks = putL ks at_ ls out all ∧ out.length ≤ 9 * (8 - ls.length) ∧ all.length ≤ ks.length + 8 - ls.length) (fun ⟨left, ls, out, all, o, cc, sp⟩ => ls.length) (nm, labs nm, [], ks, o1, c1, sp1) ?_ ?_
 ·exact ⟨ok1, (joinD_labs nm).symm, hlab.1, hlab.2, rfl, by simp, by omega⟩
 rintro ⟨left, ls, out, all, o, cc, sp⟩ hI
 try dsimp only at hI ⊢
 obtain ⟨hok2, hleft, hla, hl8, hput, hol, hal⟩ := hI
 have nk2 := hok2.nk
 have hto : 0 ≤ (mget m left).getD 0 ∧ (mget m left).getD 0 < 16384 := by rw [hm]; cases hq : kfind ks left with | none => simp | some t => exact kfind_ok hk hq
 have hjl := joinD_len hla
 rw [← hleft] at hjl
 refine W.go ?_
 refine CW.cond (vt rfl) (fun hc2 => ?_) (fun hc2 => ?_)
 ·try simp only [sk] at hc2
  cases ls with | nil => exact absurd hleft hc2 | cons l r => ?_
  simp only [List.all_cons, Bool.and_eq_true] at hla
  have hcj := cut_join (r := r) hla.1
  rw [← hleft] at hcj
  have hll := labOk_len hla.1
  have hcl1 : (cutB 46 left).1.length = l.length := by rw [hcj.1]
  have hb1 : (beb ((cutB 46 left).1.length : Int) 1).length = 1 := rfl
  simp only [List.length_cons] at hl8 hol hal hjl
  refine W.go ?_
  refine W.p (O.bd (hv := PV.cons (vt rfl) (PV.nil))) ?_
  refine W.p (O.lkT (ek := kT) (ev := kI) 0) ?_
  refine W.go ?_
  refine CW.cond (vt rfl) (fun hc3 => ?_) (fun hc3 => ?_)
  ·try simp only [sk] at hc3
   refine W.go ?_
   refine W.q (O.call ⟨rfl, rfl⟩ (AV.cons (vt rfl) (AV.cons (vt rfl) (AV.nil))) (fun _ w hw => be_Bytes _ 2 _ (by decide))) ?_
   refine W.go ?_
   refine ⟨_, rowL o 167 (flat encK all sp), (RVs.tmp rfl (RVs.tmp rfl (RVs.tmp rfl RVs.nil))), (by repeat (first | exact List.Sublist.refl _ | exact hSub _ | exact List.sublist_append_left _ _ | exact List.nil_sublist _ | refine List.Sublist.append (List.Sublist.refl _) ?_ | apply List.Sublist.cons_cons | apply List.Sublist.cons | exact List.sublist_append_left _ _ | refine List.Sublist.trans ?_ (List.sublist_append_right _ _))), ?_⟩
   rw [nmPut_ok hok, hput]
   cases hq : kfind ks (joinD (l :: r)) with | none => rw [hm, hleft, hq] at hc3; cases hc3 | some t => ?_
   rw [putL_hit hq, hm, hleft, hq]
   exact ⟨o, cc, sp, rfl, hok2, rfl⟩
  try simp only [sk] at hc3
  refine W.go ?_
  refine CW.cond (vt rfl) (fun hc4 => ?_) (fun hc4 => ?_)
  ·try simp only [sk] at hc4
   refine W.go ?_
   refine W.p (O.bd (hv := PV.cons (vt rfl) (PV.cons (vt rfl) (PV.nil)))) ?_
   refine W.bs encK [⟨_, _⟩] rfl (PV.cons (vt rfl) (PV.nil)) rfl rfl rfl (by decide) rfl fun b1 => ?_
   refine W.ap rfl (vt rfl) (vt rfl) (by first | rfl | omega) (by first | rfl | omega) rfl (by first | assumption | exact OwnOk.nil | exact OwnOk.lit) (by first | omega | (simp; omega)) fun o2 c2 sp2 ok2 ne2 gt2 => ?_
   have nk2 := ok2.nk; have le2 := ok2.2.2.1; try simp only [List.length_append, List.length_cons, List.length_nil] at le2
   refine W.go ?_
   refine W.q (O.call ⟨rfl, rfl⟩ (AV.cons (vt rfl) (AV.cons (vt rfl) (AV.nil))) (fun _ w hw => st_Cut1 _ 46 w (by omega))) ?_
   refine W.go ?_
   refine W.q (O.call ⟨rfl, rfl⟩ (AV.cons (vt rfl) (AV.cons (vt rfl) (AV.nil))) (fun _ w hw => be_Bytes _ 1 _ (by decide))) ?_
   refine W.go ?_
   refine nextA (_, r, _, all ++ [⟨left, at_ + out.length⟩], _, _, _) ?_ ?_
   ·try dsimp only
    have hno : kfind ks (joinD (l :: r)) = none := by rw [← hleft, ← hm]; simpa using hc3
    rw [putL_miss hno, if_pos hc4, ← hleft] at hput
    refine ⟨by assumption, hcj.2, hla.2, by omega, ?_, ?_, by simp only [List.length_append, List.length_cons, List.length_nil]; omega⟩
    ·rw [hput, hcj.1, beb_one, byteOf_cast]; simp
    ·rw [hcj.1, beb_one]; simp only [List.length_append, List.length_cons, List.length_nil]; omega
   ·try dsimp only
    simp
  try simp only [sk] at hc4
  refine W.go ?_
  refine W.q (O.call ⟨rfl, rfl⟩ (AV.cons (vt rfl) (AV.cons (vt rfl) (AV.nil))) (fun _ w hw => st_Cut1 _ 46 w (by omega))) ?_
  refine W.go ?_
  refine W.q (O.call ⟨rfl, rfl⟩ (AV.cons (vt rfl) (AV.cons (vt rfl) (AV.nil))) (fun _ w hw => be_Bytes _ 1 _ (by decide))) ?_
  refine W.go ?_
  refine nextA (_, r, _, all, _, _, _) ?_ ?_
  ·try dsimp only
   have hno : kfind ks (joinD (l :: r)) = none := by rw [← hleft, ← hm]; simpa using hc3
   rw [putL_miss hno, if_neg hc4] at hput
   refine ⟨hok2, hcj.2, hla.2, by omega, ?_, ?_, by omega⟩
   ·rw [hput, hcj.1, beb_one, byteOf_cast]; simp
   ·rw [hcj.1, beb_one]; simp only [List.length_append, List.length_cons, List.length_nil]; omega
  ·try dsimp only
   simp
 try simp only [sk] at hc2
 refine W.go ?_
 refine ⟨_, rowL o 167 (flat encK all sp), (RVs.tmp rfl (RVs.tmp rfl (RVs.tmp rfl RVs.nil))), (by repeat (first | exact List.Sublist.refl _ | exact hSub _ | exact List.sublist_append_left _ _ | exact List.nil_sublist _ | refine List.Sublist.append (List.Sublist.refl _) ?_ | apply List.Sublist.cons_cons | apply List.Sublist.cons | exact List.sublist_append_left _ _ | refine List.Sublist.trans ?_ (List.sublist_append_right _ _))), ?_⟩
 have hnil : ls = [] := by cases ls with | nil => rfl | cons l r => exact absurd (hleft.symm.trans (by simpa using hc2)) (joinD_ne (by simp) hla)
 subst hnil
 rw [nmPut_ok hok, hput, putL_end]
 exact ⟨o, cc, sp, rfl, hok2, rfl⟩
end Go.Proofs.YtfmdaijkgjkmpaaGreatDoor

set_option linter.unusedVariables false
set_option linter.unusedSimpArgs false
namespace Go.Proofs.YtfmdaijkgjkmpaaGreatDoor
open Go Go.RowKit
set_option maxRecDepth 100000 in
theorem be_Wide (k : Int) (w : World) : Fn Tryz.prog 129 [.int .i64 k] w [] fun v L' => v = .bool (decide (k = 1 ∨ k = 2 ∨ k = 4)) ∧ L' = [] := by
 refine Fn.enter Tryz.func129 rfl rfl rfl rfl (Holds.nil w) ?_
 refine W.go ?_
 refine ⟨_, [], (RVs.tmp rfl RVs.nil), List.nil_sublist _, ?_⟩
 refine ⟨congrArg Value.bool ?_, rfl⟩
 by_cases h1 : k = 1 <;> by_cases h2 : k = 2 <;> by_cases h4 : k = 4 <;> simp [h1, h2, h4]
set_option maxRecDepth 100000 in
theorem be_Get (s : List UInt8) (p k : Int) (w : World) (hs : s.length ≤ 140737488355328) : Fn Tryz.prog 103 [.string (S s), .int .i64 p, .int .i64 k] w [] fun v L' => v = .tuple #[.int .i64 (beG s p k).1, .int .i64 (beG s p k).2] ∧ L' = [] := by
 refine Fn.enter Tryz.func103 rfl rfl rfl rfl (Holds.nil w) ?_
 refine W.go ?_
 refine W.q (O.call ⟨rfl, rfl⟩ (AV.cons (vt rfl) (AV.nil)) (fun _ w hw => be_Wide _ w)) ?_
 refine W.go ?_
 refine CW.cond (vt rfl) (fun hc1 => ?_) (fun hc1 => ?_)
 ·try simp only [sk] at hc1
  refine W.go ?_
  refine ⟨_, [], (RVs.tmp rfl (RVs.tmp rfl RVs.nil)), List.nil_sublist _, ?_⟩
  refine ⟨?_, rfl⟩
  rw [beG, if_pos hc1]; rfl
 try simp only [sk] at hc1
 refine W.go ?_
 refine CW.cond (vt rfl) (fun hc2 => ?_) (fun hc2 => ?_)
 ·try simp only [sk] at hc2
  refine W.go ?_
  refine ⟨_, [], (RVs.tmp rfl (RVs.tmp rfl RVs.nil)), List.nil_sublist _, ?_⟩
  refine ⟨?_, rfl⟩
  rw [beG, if_neg (by omega), if_pos hc2]; rfl
 try simp only [sk] at hc2
 refine W.go ?_
 refine W.p O.slc ?_
 refine W.q (O.call ⟨rfl, rfl⟩ (AV.cons (vt rfl) (AV.nil)) (fun _ w hw => be_Number _ w (by simp only [List.length_drop, List.length_take]; omega))) ?_
 refine W.go ?_
 refine ⟨_, [], (RVs.tmp rfl (RVs.tmp rfl RVs.nil)), List.nil_sublist _, ?_⟩
 refine ⟨?_, rfl⟩
 rw [beG, if_neg (by omega), if_neg hc2]; rfl
abbrev TkU (U : TypeId) (b : Nat) (s : List UInt8) (t : TS) : Heap := [(b, .cells #[.string (S s), .int .i64 t.at_, .bool t.bad] U (0, 0))]
abbrev TkO (b : Nat) (s : List UInt8) (t : TS) : Nat × Obj := (b, .cells #[.string (S s), .int .i64 t.at_, .bool t.bad] 116 (0, 0))
abbrev TkH (b : Nat) (s : List UInt8) (t : TS) : Heap := [TkO b s t]
abbrev RrO (b : Nat) (r : RR) : Nat × Obj := (b, .cells (encR r).toArray 58 (0, 0))
set_option maxRecDepth 100000 in
theorem tk_Num {U : TypeId} {b : Nat} {s : List UInt8} {t : TS} (k : Int) (w : World) (hL : Holds (TkU U b s t) w) (hs : s.length ≤ 140737488355328) :
  Fn Tryz.prog 70 [.pointer (some ⟨b, 0, none⟩), .int .i64 k] w (TkU U b s t) fun v L' => v = .int .i64 (tNum IntKind.i64.wrap s k t).1 ∧ L' = TkU U b s (tNum IntKind.i64.wrap s k t).2 := by
 refine Fn.enter Tryz.func70 rfl rfl rfl rfl hL ?_
 refine W.go ?_
 refine CW.draw 15 rfl (by kernel_rfl) ?_
 refine WQ.p O.mv ?_
 refine WQ.p O.nc ?_
 first | refine WQ.p O.fb ?_ | refine WQ.p O.fa ?_
 refine WQ.p O.ld ?_
 refine WQ.p O.mv ?_
 refine WQ.p O.nc ?_
 first | refine WQ.p O.fb ?_ | refine WQ.p O.fa ?_
 refine WQ.p O.ld ?_
 refine WQ.p O.mv ?_
 refine WQ.q (O.call ⟨rfl, rfl⟩ (AV.cons (vt rfl) (AV.cons (vt rfl) (AV.cons (vt rfl) (AV.nil)))) (fun _ w hw => be_Get _ _ _ w hs)) ?_
 refine WQ.p O.mv ?_
 first | refine WQ.p O.extL ?_ | refine WQ.p O.ext ?_
 first | refine WQ.p O.extL ?_ | refine WQ.p O.ext ?_
 refine WQ.p O.as ?_
 refine WQ.p O.as ?_
 refine WQ.nil ?_
 refine WL.nil (Q.tn ?_)
 refine W.go ?_
 refine W.st (vt rfl) (vt rfl) rfl ?_
 refine W.go ?_
 first | refine W.st (vt rfl) (vt rfl) rfl ?_ | refine W.st (u := .int _ _) (vt rfl) (vt rfl) rfl ?_
 refine W.go ?_
 refine ⟨_, _, RVs.tmp rfl RVs.nil, List.Sublist.refl _, ?_⟩
 exact ⟨rfl, rfl⟩
set_option maxRecDepth 100000 in
theorem tk_Name {U : TypeId} {b : Nat} {s : List UInt8} {t : TS} (w : World) (hL : Holds (TkU U b s t) w) (hs : s.length ≤ 140737488355328) :
  Fn Tryz.prog 104 [.pointer (some ⟨b, 0, none⟩)] w (TkU U b s t) fun v L' => v = .string (S (tName s t).1) ∧ L' = TkU U b s (tName s t).2 := by
 refine Fn.enter Tryz.func104 rfl rfl rfl rfl hL ?_
 refine W.go ?_
 refine CW.draw 16 rfl (by kernel_rfl) ?_
 refine WQ.p O.mv ?_
 refine WQ.p O.nc ?_
 first | refine WQ.p O.fb ?_ | refine WQ.p O.fa ?_
 refine WQ.p O.ld ?_
 refine WQ.p O.mv ?_
 refine WQ.p O.nc ?_
 first | refine WQ.p O.fb ?_ | refine WQ.p O.fa ?_
 refine WQ.p O.ld ?_
 refine WQ.q (O.call ⟨rfl, rfl⟩ (AV.cons (vt rfl) (AV.cons (vt rfl) (AV.nil))) (fun _ w hw => wr_Get _ _ w hs)) ?_
 refine WQ.p O.mv ?_
 first | refine WQ.p O.extL ?_ | refine WQ.p O.ext ?_
 first | refine WQ.p O.extL ?_ | refine WQ.p O.ext ?_
 first | refine WQ.p O.extL ?_ | refine WQ.p O.ext ?_
 refine WQ.p O.as ?_
 refine WQ.p O.as ?_
 refine WQ.p O.as ?_
 refine WQ.nil ?_
 refine WL.nil (Q.tn ?_)
 refine W.go ?_
 refine W.st (vt rfl) (vt rfl) rfl ?_
 refine W.go ?_
 refine CW.cond (vt rfl) (fun hc1 => ?_) (fun hc1 => ?_)
 ·try simp only [sk] at hc1
  refine W.go ?_
  first | refine W.st (vt rfl) (vt rfl) rfl ?_ | refine W.st (u := .int _ _) (vt rfl) (vt rfl) rfl ?_
  refine W.go ?_
  refine ⟨_, _, RVs.tmp rfl RVs.nil, List.Sublist.refl _, ?_⟩
  refine ⟨rfl, ?_⟩
  have hno : ¬ (t.bad = true ∨ grE (getName s t.at_) ≠ 0) := by rintro (h | h); rw [hc1.1] at h; cases h; exact h hc1.2
  have hv : (bif t.bad then true else !decide (grE (getName s t.at_) = 0)) = false := by rw [hc1.1, decide_eq_true hc1.2]; rfl
  rw [tName, if_neg hno]
  show TkU U b s ⟨grT (getName s t.at_), (bif t.bad then true else !decide (grE (getName s t.at_) = 0))⟩ = _
  rw [hv]
 try simp only [sk] at hc1
 refine W.go ?_
 refine ⟨_, _, RVs.tmp rfl RVs.nil, List.Sublist.refl _, ?_⟩
 refine ⟨rfl, ?_⟩
 have hyes : t.bad = true ∨ grE (getName s t.at_) ≠ 0 := hc1
 have hv : (bif t.bad then true else !decide (grE (getName s t.at_) = 0)) = true := by rcases hyes with h | h; rw [h]; rfl; rw [decide_eq_false h]; cases t.bad <;> rfl
 rw [tName, if_pos hyes]
 show TkU U b s ⟨t.at_, (bif t.bad then true else !decide (grE (getName s t.at_) = 0))⟩ = _
 rw [hv]
set_option maxRecDepth 100000 in
theorem tk_Some {U : TypeId} {b : Nat} {s : List UInt8} {t : TS} (k : Int) (w : World) (hL : Holds (TkU U b s t) w) (hs : s.length ≤ 140737488355328) (hb : t.bad = false → 0 ≤ t.at_ ∧ t.at_ ≤ s.length) (hk : 0 ≤ k ∧ k ≤ 65536) :
  Fn Tryz.prog 131 [.pointer (some ⟨b, 0, none⟩), .int .i64 k] w (TkU U b s t) fun v L' => v = .string (S (tSome s k t).1) ∧ L' = TkU U b s (tSome s k t).2 := by
 refine Fn.enter Tryz.func131 rfl rfl rfl rfl hL ?_
 refine W.go ?_
 refine CW.draw 18 rfl (by kernel_rfl) ?_
 refine WQ.p O.mv ?_
 refine WQ.p O.nc ?_
 first | refine WQ.p O.fb ?_ | refine WQ.p O.fa ?_
 refine WQ.p O.ld ?_
 refine WQ.p O.mv ?_
 refine WQ.p O.mv ?_
 refine WQ.p O.mv ?_
 refine WQ.p O.nc ?_
 first | refine WQ.p O.fb ?_ | refine WQ.p O.fa ?_
 refine WQ.p O.ld ?_
 refine WQ.p O.len ?_
 refine WQ.p O.mv ?_
 refine WQ.p O.nc ?_
 first | refine WQ.p O.fb ?_ | refine WQ.p O.fa ?_
 refine WQ.p O.ld ?_
 first | refine WQ.p O.subN ?_ | refine WQ.p O.sub ?_
 refine WQ.p O.gtr ?_
 refine WQ.p O.pkB ?_
 refine WQ.nil ?_
 refine WL.nil (Q.tn ?_)
 refine CW.cond (vt rfl) (fun hc1 => ?_) (fun hc1 => ?_)
 ·try simp only [sk] at hc1
  have hyes : t.bad = true ∨ (s.length : Int) - t.at_ < k := by cases hB : t.bad with | true => exact .inl rfl | false => rw [hB] at hc1; have := hb hB; rw [wrap_in _ (by omega)] at hc1; exact .inr (by simpa using hc1)
  refine W.go ?_
  refine W.st (vt rfl) (vt rfl) rfl ?_
  refine W.go ?_
  refine ⟨_, _, RVs.tmp rfl RVs.nil, List.Sublist.refl _, ?_⟩
  rw [tSome, if_pos hyes]
  exact ⟨rfl, rfl⟩
 try simp only [sk] at hc1
 have hB : t.bad = false := by rcases hc1 with ⟨h, _⟩; exact h
 have hb2 := hb hB
 rw [wrap_in _ (by omega)] at hc1
 refine W.go ?_
 first | refine W.st (vt rfl) (vt rfl) rfl ?_ | refine W.st (u := .int _ _) (vt rfl) (vt rfl) rfl ?_
 refine W.go ?_
 refine CW.draw 16 rfl (by kernel_rfl) ?_
 refine WQ.p O.mv ?_
 refine WQ.p O.nc ?_
 first | refine WQ.p O.fb ?_ | refine WQ.p O.fa ?_
 refine WQ.p O.ld ?_
 refine WQ.p O.mv ?_
 refine WQ.p O.nc ?_
 first | refine WQ.p O.fb ?_ | refine WQ.p O.fa ?_
 refine WQ.p O.ld ?_
 refine WQ.p O.mv ?_
 first | refine WQ.p O.subN ?_ | refine WQ.p O.sub ?_
 refine WQ.p O.mv ?_
 refine WQ.p O.nc ?_
 first | refine WQ.p O.fb ?_ | refine WQ.p O.fa ?_
 refine WQ.p O.ld ?_
 refine WQ.p O.slc ?_
 refine WQ.p O.as ?_
 refine WQ.nil ?_
 refine WL.nil (Q.tn ?_)
 refine CW.ret ?_
 refine ⟨_, _, RVs.tmp rfl RVs.nil, List.Sublist.refl _, ?_⟩
 have hno : ¬ (t.bad = true ∨ (s.length : Int) - t.at_ < k) := by rintro (h | h); rw [hB] at h; cases h; omega
 rw [tSome, if_neg hno]
 refine ⟨?_, ?_⟩
 ·show Value.string (S (slc s (t.at_ + k - k) (t.at_ + k))) = _; rw [show t.at_ + k - k = t.at_ by omega]
 ·show TkU U b s ⟨t.at_ + k, t.bad⟩ = _; rw [hB]
theorem tNum_rng {s : List UInt8} (hs : s.length ≤ 140737488355328) {k : Int} (hk : k = 1 ∨ k = 2 ∨ k = 4) {t : TS} (ht : t.bad = false → 0 ≤ t.at_) : (tNum IntKind.i64.wrap s k t).2.bad = false → 0 ≤ (tNum IntKind.i64.wrap s k t).2.at_ ∧ (tNum IntKind.i64.wrap s k t).2.at_ ≤ s.length := fun h => by
 rcases tNum_ok wr_in hs hk ht with ⟨a, _⟩ | ⟨a, b, c⟩
 ·rw [a] at h; cases h
 ·have := ht a; rw [c]; exact ⟨by dsimp only; omega, b⟩
theorem beG_rng1 (s : List UInt8) (p : Int) : 0 ≤ (beG s p 1).1 ∧ (beG s p 1).1 ≤ 65536 := by
 unfold beG
 split; · simp
 split; · simp
 have := numI_1 (l := slc s p (p + 1)) (by simp only [slc, List.length_drop, List.length_take]; omega)
 exact ⟨this.1, by dsimp only; omega⟩
end Go.Proofs.YtfmdaijkgjkmpaaGreatDoor
