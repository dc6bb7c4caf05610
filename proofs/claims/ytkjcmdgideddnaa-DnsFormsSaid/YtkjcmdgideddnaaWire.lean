/- What the functions of package wire that read come to. Conditions: the text is not longer than some 2^47 bytes. -/
import Derived.Test.YtkjcmdgideddnaaCv
import Derived.Test.YtkjcmdgideddnaaPRL
set_option linter.unusedVariables false
set_option linter.unusedSimpArgs false
namespace Go.Proofs.Ytkjcmdgideddnaa
open Go Go.RowKit
theorem num_step {s : List UInt8} {i x : Int} (h0 : 0 ≤ i) (h1 : i < s.length) (hn : s.length ≤ 7) (hx : x = numI (s.take i.toNat)) :
    bits .or .i64 (IntKind.i64.wrap (x * 2 ^ (8 : Int).toNat)) ((s.getD i.toNat 0).toNat : Int) = numI (s.take (i + 1).toNat) := by
  have hb := (s.getD i.toNat 0).toNat_lt
  have hl : (s.take i.toNat).length ≤ 6 := by rw [List.length_take]; omega
  have hx2 := numI_bd (s.take i.toNat)
  have hp : (256 : Int) ^ (s.take i.toNat).length ≤ 256 ^ 6 := p256 hl
  have e6 : (256 : Int) ^ 6 = 281474976710656 := by decide
  rw [← hx] at hx2
  have e8 : (2 : Int) ^ (8 : Int).toNat = 256 := by decide
  rw [e8, wrap_in _ (by omega), or_add 8 (by decide) (by omega) (by omega) (by omega) (by omega) (by omega), take_at' 0 h0 h1, numI_app, ← hx]
  simp only [List.length_cons, List.length_nil, Nat.zero_add, Int.pow_one, numI_one]
set_option maxRecDepth 100000 in
theorem be_Number (s : List UInt8) (w : World) (hn : s.length ≤ 7) : Fn Try.prog 154 [.string (S s)] w [] fun v L' => v = .int .i64 (numI s) ∧ L' = [] := by
  refine Fn.enter Try.func154 rfl rfl rfl rfl (Holds.nil w) ?_
  refine CW.seq ?_
  refine CW.region ?_
  refine W.p O.as ?_
  refine WL.nil (Q.tn ?_)
  refine CW.seq ?_
  refine CW.region ?_
  refine W.p O.as ?_
  refine WL.nil (Q.tn ?_)
  refine CW.seq ?_
  refine CW.seq ?_
  refine CW.region ?_
  refine W.p O.mv ?_
  refine W.cvSB rfl (vt rfl) fun b1 c1 sp1 le1 => ?_
  refine W.p O.lenL ?_
  refine W.p O.mv ?_
  refine WL.nil (Q.tn ?_)
  refine CW.block ?_
  refine CW.loopA (X := Int × Int) (fun ⟨i, x⟩ => [(3, true, .int .i64 x), (7, true, .slice (some ⟨b1, 0, none⟩) s.length c1), (8, true, .int .i64 s.length), (9, true, .int .i64 i)]) (fun ⟨i, x⟩ => [(b1, .cells (flat encB s sp1).toArray 5 (c1, c1 + 1))]) (fun ⟨i, x⟩ => 0 ≤ i ∧ i ≤ s.length ∧ x = numI (s.take i.toNat)) (fun ⟨i, x⟩ => (s.length - i).toNat) (0, 0) ?_ ?_
  · exact ⟨by omega, by omega, rfl⟩
  rintro ⟨i, x⟩ hI
  try dsimp only at hI ⊢
  obtain ⟨h0, h1, hx⟩ := hI
  refine CW.seq ?_
  refine CW.region ?_
  refine W.p O.lss ?_
  refine WL.nil (Q.tn ?_)
  refine CW.seq ?_
  refine CW.cond (vt rfl) (fun hc1 => ?_) (fun hc1 => ?_)
  · try simp only [sk] at hc1
    refine CW.skip (Q.tn ?_)
    refine CW.seq ?_
    refine CW.block ?_
    refine CW.seq ?_
    refine CW.region ?_
    refine W.p O.ixA ?_
    refine W.p O.ldE ?_
    refine W.p O.as ?_
    refine WL.nil (Q.tn ?_)
    refine CW.region ?_
    refine W.p O.mv ?_
    refine W.p O.shl ?_
    refine W.p O.mv ?_
    first | refine W.p O.cvB ?_ | refine W.p O.cv ?_
    refine W.p O.or ?_
    refine W.p O.as ?_
    refine WL.nil (Q.bn (Q.tn ?_))
    refine CW.region ?_
    first | refine W.p O.addN ?_ | refine W.p O.add ?_
    refine W.p O.mv ?_
    refine WL.nil (Q.tn ?_)
    refine nextA (_, _) ?_ ?_
    · try dsimp only
      exact ⟨by omega, by omega, num_step h0 hc1 hn hx⟩
    · try dsimp only
      omega
  try simp only [sk] at hc1
  refine CW.exit (Q.te (Q.te (Q.bx (Q.tn ?_))))
  refine CW.seq ?_
  refine CW.region ?_
  refine W.p O.mv ?_
  refine W.p O.as ?_
  refine WL.nil (Q.tn ?_)
  refine CW.ret ?_
  refine ⟨_, [], (RVs.tmp rfl RVs.nil), List.nil_sublist _, ?_⟩
  refine ⟨?_, rfl⟩
  rw [hx, show i.toNat = s.length by omega, List.take_length]; rfl
abbrev RdO (b : Nat) (s : List UInt8) (p r f : Int) (v : Value) : Nat × Obj := (b, .cells [.string (S s), .int .i64 p, .int .i64 r, .int .i64 f, v].toArray 159 (0, 0))
/-- a reading, and its part of the heap -/
def Rgs (b : Nat) (s : List UInt8) (g : GS) (L : Heap) : Prop :=
  ∃ o c sp, OwnOk o c 1 g.ls.length (List.length sp) ∧ L = rowL o 9 (flat encS g.ls sp) ++ [RdO b s g.at_ g.row g.fin (.slice (oa o) g.ls.length c)]
set_option maxRecDepth 100000 in
theorem rd_take {b : Nat} {s : List UInt8} {g : GS} {Lb : Heap} (k : Int) (w : World) (hR : Rgs b s g Lb) (hL : Holds Lb w) (hs : s.length ≤ 140737488355328) (h0 : 0 ≤ g.at_) (hk : 0 ≤ k ∧ k ≤ 255) :
    Fn Try.prog 153 [.pointer (some ⟨b, 0, none⟩), .int .i64 k] w Lb fun v L' => v = .tuple #[.string (S (takeR s g k).1), .bool (takeR s g k).2.1] ∧ Rgs b s (takeR s g k).2.2 L' := by
  obtain ⟨o, c, sp, hok, rfl⟩ := hR
  refine Fn.enter Try.func153 rfl rfl rfl rfl hL ?_
  refine CW.seq ?_
  refine CW.region ?_
  refine W.p O.as ?_
  refine W.p O.as ?_
  refine WL.nil (Q.tn ?_)
  refine CW.seq ?_
  refine CW.seq ?_
  refine CW.draw 12 rfl (by kernel_rfl) ?_
  refine WQ.p O.mv ?_
  refine WQ.p O.nc ?_
  first | refine WQ.p O.fb ?_ | refine WQ.p O.fa ?_
  refine WQ.p O.ld ?_
  refine WQ.p O.mv ?_
  refine WQ.p O.nc ?_
  first | refine WQ.p O.fb ?_ | refine WQ.p O.fa ?_
  refine WQ.p O.ld ?_
  refine WQ.p O.len ?_
  refine WQ.p O.mv ?_
  first | refine WQ.p O.subN ?_ | refine WQ.p O.sub ?_
  refine WQ.p O.gtr ?_
  refine WQ.nil ?_
  refine WL.nil (Q.tn ?_)
  refine CW.cond (vt rfl) (fun hc1 => ?_) (fun hc1 => ?_)
  · try simp only [sk] at hc1
    refine CW.seq ?_
    refine CW.region ?_
    refine W.p O.as ?_
    refine W.p O.as ?_
    refine WL.nil (Q.tn ?_)
    refine CW.ret (Q.tr ?_)
    refine ⟨_, _, RVs.tmp rfl (RVs.tmp rfl RVs.nil), List.Sublist.refl _, ?_⟩
    rw [takeR, if_pos hc1]
    exact ⟨rfl, _, _, _, hok, rfl⟩
  try simp only [sk] at hc1
  refine CW.skip (Q.tn ?_)
  refine CW.seq ?_
  refine CW.region ?_
  refine W.p O.mv ?_
  refine W.p O.nc ?_
  first | refine W.p O.fb ?_ | refine W.p O.fa ?_
  refine W.p O.ld ?_
  refine W.p O.mv ?_
  first | refine W.p O.addN ?_ | refine W.p O.add ?_
  refine W.p O.nc ?_
  first | refine W.p O.fb ?_ | refine W.p O.fa ?_
  first | refine W.st (vt rfl) (vt rfl) rfl ?_ | refine W.st (u := .int _ _) (vt rfl) (vt rfl) rfl ?_
  refine WL.nil (Q.tn ?_)
  refine CW.seq ?_
  refine CW.draw 17 rfl (by kernel_rfl) ?_
  refine WQ.p O.mv ?_
  refine WQ.p O.nc ?_
  first | refine WQ.p O.fb ?_ | refine WQ.p O.fa ?_
  refine WQ.p O.ld ?_
  refine WQ.p O.mv ?_
  refine WQ.p O.nc ?_
  first | refine WQ.p O.fb ?_ | refine WQ.p O.fa ?_
  refine WQ.p O.ld ?_
  refine WQ.p O.mv ?_
  first | refine WQ.p O.subN ?_ | refine WQ.p O.sub ?_
  refine WQ.p O.mv ?_
  refine WQ.p O.nc ?_
  first | refine WQ.p O.fb ?_ | refine WQ.p O.fa ?_
  refine WQ.p O.ld ?_
  refine WQ.p O.slc ?_
  refine WQ.p O.as ?_
  refine WQ.p O.as ?_
  refine WQ.nil ?_
  refine WL.nil (Q.tn ?_)
  refine CW.ret ?_
  refine ⟨_, _, RVs.tmp rfl (RVs.tmp rfl RVs.nil), List.Sublist.refl _, ?_⟩
  rw [takeR, if_neg hc1]
  refine ⟨?_, _, _, _, hok, rfl⟩
  rw [slc, show g.at_ + k - k = g.at_ by omega]; rfl
theorem wrap_hi {k : Int} (h : 0 ≤ k ∧ k ≤ 255) : IntKind.i64.wrap (k * 2 ^ (8 : Int).toNat) = k * 256 := by
  have e8 : (2 : Int) ^ (8 : Int).toNat = 256 := by decide
  rw [e8, wrap_in _ (by omega)]
set_option maxRecDepth 100000 in
theorem rd_label {b : Nat} {s : List UInt8} {g : GS} {Lb : Heap} (k : Int) (w : World) (hR : Rgs b s g Lb) (hL : Holds Lb w) (hs : s.length ≤ 140737488355328) (h0 : 0 ≤ g.at_) (hk : 0 ≤ k ∧ k ≤ 255) (h8 : g.ls.length ≤ 8) :
    Fn Try.prog 155 [.pointer (some ⟨b, 0, none⟩), .int .i64 k] w Lb fun v L' => v = .int .i64 (labR s g k).1 ∧ Rgs b s (labR s g k).2 L' := by
  have htl := takeR_len (s := s) h0 hk.1
  have htg := takeR_ls s g k
  refine Fn.enter Try.func155 rfl rfl rfl rfl hL ?_
  refine CW.seq ?_
  refine CW.region ?_
  refine W.p O.as ?_
  refine WL.nil (Q.tn ?_)
  refine CW.seq ?_
  refine CW.region ?_
  refine W.p O.mv ?_
  refine W.p O.mv ?_
  refine W.callS (first := []) (cap := []) _ rfl (vt rfl) (AV.cons (vt rfl) (AV.cons (vt rfl) (AV.nil))) (fun w hu hh => rd_take k w hR hh hs h0 hk) ?_; rintro _ _ ⟨rfl, o2, c2, sp2, hk2, rfl⟩; have nk2 := hk2.nk; have hl8 : (takeR s g k).2.2.ls.length ≤ 8 := by rw [htg.1]; exact h8
  refine W.p O.mv ?_
  first | refine W.p O.extL ?_ | refine W.p O.ext ?_
  first | refine W.p O.extL ?_ | refine W.p O.ext ?_
  refine W.p O.as ?_
  refine W.p O.as ?_
  refine WL.nil (Q.tn ?_)
  refine CW.seq ?_
  refine CW.seq ?_
  refine CW.region ?_
  refine W.p O.mv ?_
  refine W.p O.nt ?_
  refine WL.nil (Q.tn ?_)
  refine CW.cond (vt rfl) (fun hc1 => ?_) (fun hc1 => ?_)
  · try simp only [sk] at hc1
    refine CW.seq ?_
    refine CW.region ?_
    refine W.p O.as ?_
    refine WL.nil (Q.tn ?_)
    refine CW.ret (Q.tr ?_)
    refine ⟨_, _, RVs.tmp rfl RVs.nil, List.Sublist.refl _, ?_⟩
    rw [labR, if_pos hc1]
    exact ⟨rfl, _, _, _, hk2, rfl⟩
  try simp only [sk] at hc1
  refine CW.skip (Q.tn ?_)
  refine CW.seq ?_
  refine CW.seq ?_
  refine CW.region ?_
  refine W.p O.mv ?_
  refine W.q (O.call ⟨rfl, rfl⟩ (AV.cons (vt rfl) (AV.nil)) (fun _ w hw => nm_Fold _ w (by omega))) ?_
  refine W.p O.as ?_
  refine WL.nil (Q.tn ?_)
  refine CW.seq ?_
  refine CW.region ?_
  refine W.p O.mv ?_
  refine W.q (O.call ⟨rfl, rfl⟩ (AV.cons (vt rfl) (AV.nil)) (fun _ w hw => nm_Label _ w (by simp only [fold, List.length_map]; omega))) ?_
  refine W.p O.nt ?_
  refine W.p O.mv ?_
  refine W.p O.mv ?_
  refine W.p O.nc ?_
  first | refine W.p O.fb ?_ | refine W.p O.fa ?_
  refine W.p O.ld ?_
  refine W.p O.lenL ?_
  refine W.p O.eqI ?_
  refine W.p O.pkB ?_
  refine WL.nil (Q.tn ?_)
  refine CW.cond (vt rfl) (fun hc2 => ?_) (fun hc2 => ?_)
  · try simp only [sk] at hc2
    refine CW.seq ?_
    refine CW.region ?_
    refine W.p O.as ?_
    refine WL.nil (Q.tn ?_)
    refine CW.ret (Q.tr ?_)
    refine ⟨_, _, RVs.tmp rfl RVs.nil, List.Sublist.refl _, ?_⟩
    have e : labOk (fold (takeR s g k).1) = false ∨ (takeR s g k).2.2.ls.length = 8 := by rcases hc2 with h | h; exact .inl h; exact .inr (by omega)
    rw [labR, if_neg (by simpa using hc1), if_pos e]
    exact ⟨rfl, _, _, _, hk2, rfl⟩
  try simp only [sk] at hc2
  refine CW.skip (Q.tn ?_)
  refine CW.seq ?_
  refine CW.region ?_
  refine W.p O.mv ?_
  refine W.p O.mv ?_
  refine W.p O.nc ?_
  first | refine W.p O.fb ?_ | refine W.p O.fa ?_
  refine W.p O.ld ?_
  refine W.p O.mv ?_
  refine W.bs encS [_] rfl (PV.cons (vt rfl) (PV.nil)) rfl rfl rfl (by decide) rfl fun b1 => ?_
  refine W.ap rfl (vt rfl) (vt rfl) (by first | rfl | omega) (by first | rfl | omega) rfl (by first | assumption | exact OwnOk.nil | exact OwnOk.lit) (by first | omega | (simp; omega)) fun o1 c1 sp1 ok1 ne1 gt1 => ?_
  have nk1 := ok1.nk; have le1 := ok1.2.2.1; try simp only [List.length_append, List.length_cons, List.length_nil] at le1
  refine W.p O.nc ?_
  first | refine W.p O.fb ?_ | refine W.p O.fa ?_
  first | refine W.st (vt rfl) (vt rfl) rfl ?_ | refine W.st (u := .slice _ _ _) (vt rfl) (vt rfl) rfl ?_
  refine WL.nil (Q.tn ?_)
  refine CW.seq ?_
  refine CW.region ?_
  refine W.p O.as ?_
  refine WL.nil (Q.tn ?_)
  refine CW.ret ?_
  refine ⟨_, rowL o1 9 (flat encS ((takeR s g k).2.2.ls ++ [fold (takeR s g k).1]) sp1) ++ [RdO b s (takeR s g k).2.2.at_ (takeR s g k).2.2.row (takeR s g k).2.2.fin (.slice (oa o1) ((takeR s g k).2.2.ls ++ [fold (takeR s g k).1]).length c1)], (RVs.tmp rfl RVs.nil), (by repeat (first | exact List.Sublist.refl _ | exact hSub _ | exact List.sublist_append_left _ _ | exact List.nil_sublist _ | refine List.Sublist.append (List.Sublist.refl _) ?_ | apply List.Sublist.cons_cons | apply List.Sublist.cons | exact List.sublist_append_left _ _ | refine List.Sublist.trans ?_ (List.sublist_append_right _ _))), ?_⟩
  have e : ¬ (labOk (fold (takeR s g k).1) = false ∨ (takeR s g k).2.2.ls.length = 8) := by rintro (h | h); rw [h] at hc2; exact absurd hc2.1 (by decide); omega
  rw [labR, if_neg (by simpa using hc1), if_neg e]
  refine ⟨rfl, _, _, _, by assumption, rfl⟩
set_option maxRecDepth 100000 in
theorem rd_jump {b : Nat} {s : List UInt8} {g : GS} {Lb : Heap} (k : Int) (w : World) (hR : Rgs b s g Lb) (hL : Holds Lb w) (hs : s.length ≤ 140737488355328) (h0 : 0 ≤ g.at_) (hk : 0 ≤ k ∧ k ≤ 255) :
    Fn Try.prog 156 [.pointer (some ⟨b, 0, none⟩), .int .i64 k] w Lb fun v L' => v = .int .i64 (jumR s g k).1 ∧ Rgs b s (jumR s g k).2 L' := by
  have htl := takeR_len (s := s) h0 (show (0 : Int) ≤ 1 by decide)
  have htg := takeR_ls s g 1
  have hnb := numI_1 (show (takeR s g 1).1.length ≤ 1 from htl)
  have hw8 := wrap_hi hk
  refine Fn.enter Try.func156 rfl rfl rfl rfl hL ?_
  refine CW.seq ?_
  refine CW.region ?_
  refine W.p O.as ?_
  refine WL.nil (Q.tn ?_)
  refine CW.seq ?_
  refine CW.region ?_
  refine W.p O.mv ?_
  refine W.callS (first := []) (cap := []) _ rfl (vt rfl) (AV.cons (vt rfl) (AV.cons (vt rfl) (AV.nil))) (fun w hu hh => rd_take 1 w hR hh hs h0 (by decide)) ?_; rintro _ _ ⟨rfl, o2, c2, sp2, hk2, rfl⟩
  refine W.p O.mv ?_
  first | refine W.p O.extL ?_ | refine W.p O.ext ?_
  first | refine W.p O.extL ?_ | refine W.p O.ext ?_
  refine W.p O.as ?_
  refine W.p O.as ?_
  refine WL.nil (Q.tn ?_)
  refine CW.seq ?_
  refine CW.seq ?_
  refine CW.region ?_
  refine W.p O.mv ?_
  refine W.p O.nt ?_
  refine WL.nil (Q.tn ?_)
  refine CW.cond (vt rfl) (fun hc1 => ?_) (fun hc1 => ?_)
  · try simp only [sk] at hc1
    refine CW.seq ?_
    refine CW.region ?_
    refine W.p O.as ?_
    refine WL.nil (Q.tn ?_)
    refine CW.ret (Q.tr ?_)
    refine ⟨_, _, RVs.tmp rfl RVs.nil, List.Sublist.refl _, ?_⟩
    rw [jumR, if_pos hc1]
    exact ⟨rfl, _, _, _, hk2, rfl⟩
  try simp only [sk] at hc1
  refine CW.skip (Q.tn ?_)
  refine CW.seq ?_
  refine CW.region ?_
  refine W.p O.mv ?_
  refine W.p O.shl ?_
  refine W.p O.mv ?_
  refine W.q (O.call ⟨rfl, rfl⟩ (AV.cons (vt rfl) (AV.nil)) (fun _ w hw => be_Number _ w (by omega))) ?_
  first | refine W.p O.addN ?_ | refine W.p O.add ?_
  first | refine W.p O.subN ?_ | refine W.p O.sub ?_
  refine W.p O.as ?_
  refine WL.nil (Q.tn ?_)
  refine CW.seq ?_
  refine CW.seq ?_
  refine CW.region ?_
  refine W.p O.mv ?_
  refine W.p O.mv ?_
  refine W.p O.nc ?_
  first | refine W.p O.fb ?_ | refine W.p O.fa ?_
  refine W.p O.ld ?_
  refine W.p O.geq ?_
  refine WL.nil (Q.tn ?_)
  refine CW.cond (vt rfl) (fun hc2 => ?_) (fun hc2 => ?_)
  · try simp only [sk] at hc2
    refine CW.seq ?_
    refine CW.region ?_
    refine W.p O.as ?_
    refine WL.nil (Q.tn ?_)
    refine CW.ret (Q.tr ?_)
    refine ⟨_, _, RVs.tmp rfl RVs.nil, List.Sublist.refl _, ?_⟩
    rw [hw8] at hc2
    rw [jumR, if_neg (by simpa using hc1), if_pos hc2]
    exact ⟨rfl, _, _, _, hk2, rfl⟩
  try simp only [sk] at hc2
  refine CW.skip (Q.tn ?_)
  refine CW.seq ?_
  refine CW.seq ?_
  refine CW.region ?_
  refine W.p O.mv ?_
  refine W.p O.nc ?_
  first | refine W.p O.fb ?_ | refine W.p O.fa ?_
  refine W.p O.ld ?_
  refine W.p O.lss ?_
  refine WL.nil (Q.tn ?_)
  refine CW.cond (vt rfl) (fun hc3 => ?_) (fun hc3 => ?_)
  · try simp only [sk] at hc3
    refine CW.region ?_
    refine W.p O.mv ?_
    refine W.p O.mv ?_
    refine W.p O.nc ?_
    first | refine W.p O.fb ?_ | refine W.p O.fa ?_
    refine W.p O.ld ?_
    refine W.p O.nc ?_
    first | refine W.p O.fb ?_ | refine W.p O.fa ?_
    first | refine W.st (vt rfl) (vt rfl) rfl ?_ | refine W.st (u := .int _ _) (vt rfl) (vt rfl) rfl ?_
    refine WL.nil (Q.tn ?_)
    refine CW.seq ?_
    refine CW.region ?_
    refine W.p O.mv ?_
    refine W.p O.mv ?_
    refine W.p O.mv ?_
    refine W.p O.mv ?_
    refine W.p O.nc ?_
    first | refine W.p O.fb ?_ | refine W.p O.fa ?_
    first | refine W.st (vt rfl) (vt rfl) rfl ?_ | refine W.st (u := .int _ _) (vt rfl) (vt rfl) rfl ?_
    refine W.p O.nc ?_
    first | refine W.p O.fb ?_ | refine W.p O.fa ?_
    first | refine W.st (vt rfl) (vt rfl) rfl ?_ | refine W.st (u := .int _ _) (vt rfl) (vt rfl) rfl ?_
    refine WL.nil (Q.tn ?_)
    refine CW.seq ?_
    refine CW.region ?_
    refine W.p O.as ?_
    refine WL.nil (Q.tn ?_)
    refine CW.ret ?_
    refine ⟨_, _, RVs.tmp rfl RVs.nil, List.Sublist.refl _, ?_⟩
    rw [hw8] at hc2 ⊢
    rw [jumR, if_neg (by simpa using hc1), if_neg hc2, if_pos hc3]
    exact ⟨rfl, _, _, _, hk2, rfl⟩
  try simp only [sk] at hc3
  refine CW.skip (Q.tn ?_)
  refine CW.seq ?_
  refine CW.region ?_
  refine W.p O.mv ?_
  refine W.p O.mv ?_
  refine W.p O.mv ?_
  refine W.p O.mv ?_
  refine W.p O.nc ?_
  first | refine W.p O.fb ?_ | refine W.p O.fa ?_
  first | refine W.st (vt rfl) (vt rfl) rfl ?_ | refine W.st (u := .int _ _) (vt rfl) (vt rfl) rfl ?_
  refine W.p O.nc ?_
  first | refine W.p O.fb ?_ | refine W.p O.fa ?_
  first | refine W.st (vt rfl) (vt rfl) rfl ?_ | refine W.st (u := .int _ _) (vt rfl) (vt rfl) rfl ?_
  refine WL.nil (Q.tn ?_)
  refine CW.seq ?_
  refine CW.region ?_
  refine W.p O.as ?_
  refine WL.nil (Q.tn ?_)
  refine CW.ret ?_
  refine ⟨_, _, RVs.tmp rfl RVs.nil, List.Sublist.refl _, ?_⟩
  rw [hw8] at hc2 ⊢
  rw [jumR, if_neg (by simpa using hc1), if_neg hc2, if_neg hc3]
  exact ⟨rfl, _, _, _, hk2, rfl⟩
set_option maxRecDepth 100000 in
theorem rd_step {b : Nat} {s : List UInt8} {g : GS} {Lb : Heap} (w : World) (hR : Rgs b s g Lb) (hL : Holds Lb w) (hs : s.length ≤ 140737488355328) (h0 : 0 ≤ g.at_) (h8 : g.ls.length ≤ 8) :
    Fn Try.prog 109 [.pointer (some ⟨b, 0, none⟩)] w Lb fun v L' => v = .tuple #[.bool (stepR s g).1, .int .i64 (stepR s g).2.1] ∧ Rgs b s (stepR s g).2.2 L' := by
  have htl := takeR_len (s := s) h0 (show (0 : Int) ≤ 1 by decide)
  have htg := takeR_ls s g 1
  have hta := takeR_at (s := s) h0 (show (0 : Int) ≤ 1 by decide)
  have hnb := numI_1 (show (takeR s g 1).1.length ≤ 1 from htl)
  refine Fn.enter Try.func109 rfl rfl rfl rfl hL ?_
  refine CW.seq ?_
  refine CW.region ?_
  refine W.p O.as ?_
  refine W.p O.as ?_
  refine WL.nil (Q.tn ?_)
  refine CW.seq ?_
  refine CW.region ?_
  refine W.p O.mv ?_
  refine W.callS (first := []) (cap := []) _ rfl (vt rfl) (AV.cons (vt rfl) (AV.cons (vt rfl) (AV.nil))) (fun w hu hh => rd_take 1 w hR hh hs h0 (by decide)) ?_; rintro _ _ ⟨rfl, hR2⟩
  refine W.p O.mv ?_
  first | refine W.p O.extL ?_ | refine W.p O.ext ?_
  first | refine W.p O.extL ?_ | refine W.p O.ext ?_
  refine W.p O.as ?_
  refine W.p O.as ?_
  refine WL.nil (Q.tn ?_)
  refine CW.seq ?_
  refine CW.seq ?_
  refine CW.region ?_
  refine W.p O.mv ?_
  refine W.p O.nt ?_
  refine WL.nil (Q.tn ?_)
  refine CW.cond (vt rfl) (fun hc1 => ?_) (fun hc1 => ?_)
  · try simp only [sk] at hc1
    refine CW.seq ?_
    refine CW.region ?_
    refine W.p O.as ?_
    refine W.p O.as ?_
    refine WL.nil (Q.tn ?_)
    refine CW.ret (Q.tr ?_)
    refine ⟨_, _, RVs.tmp rfl (RVs.tmp rfl RVs.nil), List.Sublist.refl _, ?_⟩
    rw [stepR, if_pos hc1]
    exact ⟨rfl, hR2⟩
  try simp only [sk] at hc1
  refine CW.skip (Q.tn ?_)
  refine CW.seq ?_
  refine CW.seq ?_
  refine CW.region ?_
  refine W.p O.mv ?_
  refine W.q (O.call ⟨rfl, rfl⟩ (AV.cons (vt rfl) (AV.nil)) (fun _ w hw => be_Number _ w (by omega))) ?_
  refine W.p O.as ?_
  refine WL.nil (Q.tn ?_)
  refine CW.block ?_
  refine CW.seq ?_
  refine CW.region ?_
  refine W.p O.mv ?_
  refine W.p O.eqI ?_
  refine W.p O.as ?_
  refine WL.nil (Q.tn ?_)
  refine CW.cond (vt rfl) (fun hc2 => ?_) (fun hc2 => ?_)
  · try simp only [sk] at hc2
    refine CW.seq ?_
    refine CW.region ?_
    refine W.p O.as ?_
    refine W.p O.as ?_
    refine WL.nil (Q.tn ?_)
    refine CW.ret (Q.br (Q.tr ?_))
    refine ⟨_, _, RVs.tmp rfl (RVs.tmp rfl RVs.nil), List.Sublist.refl _, ?_⟩
    rw [stepR, if_neg (by simpa using hc1), if_pos hc2]
    exact ⟨rfl, hR2⟩
  try simp only [sk] at hc2
  refine CW.seq ?_
  refine CW.region ?_
  refine W.p O.mv ?_
  refine W.p O.leq ?_
  refine W.p O.as ?_
  refine WL.nil (Q.tn ?_)
  refine CW.cond (vt rfl) (fun hc3 => ?_) (fun hc3 => ?_)
  · try simp only [sk] at hc3
    refine CW.seq ?_
    refine CW.region ?_
    refine W.p O.mv ?_
    refine W.p O.mv ?_
    refine W.callS (first := []) (cap := []) _ rfl (vt rfl) (AV.cons (vt rfl) (AV.cons (vt rfl) (AV.nil))) (fun w hu hh => rd_label _ w hR2 hh hs hta.1 hnb (by rw [htg.1]; exact h8)) ?_; rintro _ _ ⟨rfl, hR3⟩
    refine W.p O.as ?_
    refine W.p O.as ?_
    refine WL.nil (Q.tn ?_)
    refine CW.ret (Q.br (Q.tr ?_))
    refine ⟨_, _, RVs.tmp rfl (RVs.tmp rfl RVs.nil), List.Sublist.refl _, ?_⟩
    rw [stepR, if_neg (by simpa using hc1), if_neg hc2, if_pos hc3]
    exact ⟨rfl, hR3⟩
  try simp only [sk] at hc3
  refine CW.seq ?_
  refine CW.region ?_
  refine W.p O.mv ?_
  refine W.p O.geq ?_
  refine W.p O.as ?_
  refine WL.nil (Q.tn ?_)
  refine CW.cond (vt rfl) (fun hc4 => ?_) (fun hc4 => ?_)
  · try simp only [sk] at hc4
    refine CW.seq ?_
    refine CW.region ?_
    refine W.p O.mv ?_
    refine W.p O.mv ?_
    refine W.callS (first := []) (cap := []) _ rfl (vt rfl) (AV.cons (vt rfl) (AV.cons (vt rfl) (AV.nil))) (fun w hu hh => rd_jump _ w hR2 hh hs hta.1 hnb) ?_; rintro _ _ ⟨rfl, hR3⟩
    refine W.p O.as ?_
    refine W.p O.as ?_
    refine WL.nil (Q.tn ?_)
    refine CW.ret (Q.br (Q.tr ?_))
    refine ⟨_, _, RVs.tmp rfl (RVs.tmp rfl RVs.nil), List.Sublist.refl _, ?_⟩
    rw [stepR, if_neg (by simpa using hc1), if_neg hc2, if_neg hc3, if_pos hc4]
    exact ⟨rfl, hR3⟩
  try simp only [sk] at hc4
  refine CW.skip (Q.bn (Q.tn ?_))
  refine CW.seq ?_
  refine CW.region ?_
  refine W.p O.as ?_
  refine W.p O.as ?_
  refine WL.nil (Q.tn ?_)
  refine CW.ret ?_
  refine ⟨_, _, RVs.tmp rfl (RVs.tmp rfl RVs.nil), List.Sublist.refl _, ?_⟩
  rw [stepR, if_neg (by simpa using hc1), if_neg hc2, if_neg hc3, if_neg hc4]
  exact ⟨rfl, hR2⟩
abbrev grV (r : GR) : Value := .tuple #[.string (S (grN r)), .int .i64 (grT r), .int .i64 (grE r)]
theorem labs_sum : ∀ {ls : List (List UInt8)}, ls.all labOk = true → ls.flatten.length ≤ 8 * ls.length
  | [], _ => by simp
  | l :: r, h => by
    simp only [List.all_cons, Bool.and_eq_true] at h
    have := labs_sum h.2
    have := (labOk_len h.1).2
    rw [List.flatten_cons, List.length_append, List.length_cons]; omega
set_option maxRecDepth 100000 in
theorem wr_Get (s : List UInt8) (p : Int) (w : World) (hs : s.length ≤ 140737488355328) : Fn Try.prog 50 [.string (S s), .int .i64 p] w [] fun v L' => v = grV (getName s p) ∧ L' = [] := by
  refine Fn.enter Try.func50 rfl rfl rfl rfl (Holds.nil w) ?_
  refine CW.seq ?_
  refine CW.region ?_
  refine W.p O.as ?_
  refine W.p O.as ?_
  refine W.p O.as ?_
  refine WL.nil (Q.tn ?_)
  refine CW.seq ?_
  refine CW.seq ?_
  refine CW.region ?_
  refine W.p O.mv ?_
  refine W.p O.lss ?_
  refine WL.nil (Q.tn ?_)
  refine CW.cond (vt rfl) (fun hc1 => ?_) (fun hc1 => ?_)
  · try simp only [sk] at hc1
    refine CW.seq ?_
    refine CW.region ?_
    refine W.p O.as ?_
    refine W.p O.as ?_
    refine W.p O.as ?_
    refine WL.nil (Q.tn ?_)
    refine CW.ret (Q.tr ?_)
    refine ⟨_, [], (RVs.tmp rfl (RVs.tmp rfl (RVs.tmp rfl RVs.nil))), List.nil_sublist _, ?_⟩
    refine ⟨?_, rfl⟩
    rw [getName_neg s hc1]; rfl
  try simp only [sk] at hc1
  refine CW.skip (Q.tn ?_)
  refine CW.seq ?_
  refine CW.region ?_
  refine W.p O.mv ?_
  refine W.p O.mv ?_
  refine W.p O.mv ?_
  refine W.p (O.bd (hv := PV.cons (vt rfl) (PV.cons (vt rfl) (PV.cons (vt rfl) (PV.cons (vt rfl) (PV.nil)))))) ?_
  refine W.bx rfl (vt rfl) rfl fun b1 => ?_
  refine W.p O.as ?_
  refine WL.nil (Q.tn ?_)
  refine CW.block ?_
  refine CW.loopA (X := GS × Heap) (fun ⟨g, Lb⟩ => [(7, true, .pointer (some ⟨b1, 0, none⟩))]) (fun ⟨g, Lb⟩ => Lb) (fun ⟨g, Lb⟩ => Rgs b1 s g Lb ∧ 0 ≤ g.at_ ∧ g.ls.all labOk = true ∧ g.ls.length ≤ 8 ∧ (∀ r, Got s g r → Got s (GS.of p) r)) (fun ⟨g, Lb⟩ => measG s g) (GS.of p, [RdO b1 s p p (-1) (.slice none 0 0)]) ?_ ?_
  · exact ⟨⟨none, 0, [], OwnOk.nil, rfl⟩, by simp only; omega, rfl, by simp, fun _ h => h⟩
  rintro ⟨g, Lb⟩ hI
  try dsimp only at hI ⊢
  obtain ⟨hR, h0, hl, h8, hg⟩ := hI
  have hG := stepR_G (s := s) h0
  have hA := stepR_at (s := s) h0
  refine CW.block ?_
  refine CW.seq ?_
  refine CW.region ?_
  refine W.p O.mv ?_
  refine W.callS (first := []) (cap := []) _ rfl (vt rfl) (AV.cons (vt rfl) (AV.nil)) (fun w hu hh => rd_step w hR hh hs h0 h8) ?_; rintro _ _ ⟨rfl, o2, c2, sp2, hk2, rfl⟩; have nk2 := hk2.nk
  refine W.p O.mv ?_
  first | refine W.p O.extL ?_ | refine W.p O.ext ?_
  first | refine W.p O.extL ?_ | refine W.p O.ext ?_
  refine W.p O.as ?_
  refine W.p O.as ?_
  refine WL.nil (Q.tn ?_)
  refine CW.seq ?_
  refine CW.block ?_
  refine CW.seq ?_
  refine CW.region ?_
  refine W.p O.mv ?_
  refine W.p O.neI ?_
  refine W.p O.as ?_
  refine WL.nil (Q.tn ?_)
  refine CW.cond (vt rfl) (fun hc2 => ?_) (fun hc2 => ?_)
  · try simp only [sk] at hc2
    refine CW.seq ?_
    refine CW.region ?_
    refine W.p O.mv ?_
    refine W.p O.as ?_
    refine W.p O.as ?_
    refine W.p O.as ?_
    refine WL.nil (Q.tn ?_)
    refine CW.ret (Q.br (Q.tr (Q.br (Q.tr (Q.br ?_)))))
    refine ⟨_, [], (RVs.tmp rfl (RVs.tmp rfl (RVs.tmp rfl RVs.nil))), List.nil_sublist _, ?_⟩
    refine ⟨?_, rfl⟩
    rw [if_pos (by simpa using hc2)] at hG
    rw [getName_eq (by omega) (hg _ (Got.stop hG))]; rfl
  try simp only [sk] at hc2
  refine CW.seq ?_
  refine CW.region ?_
  refine W.p O.mv ?_
  refine W.p O.as ?_
  refine WL.nil (Q.tn ?_)
  refine CW.cond (vt rfl) (fun hc3 => ?_) (fun hc3 => ?_)
  · try simp only [sk] at hc3
    refine CW.exit (Q.bo rfl (Q.te (Q.bx (Q.tn ?_))))
    refine nextA ((stepR s g).2.2, _) ?_ ?_
    · try dsimp only
      rw [if_neg (by simpa using hc2), if_pos hc3] at hG
      obtain ⟨a, b, c, d⟩ := stepG_lt hG h0 hl h8
      exact ⟨⟨_, _, _, hk2, rfl⟩, b, c, d, fun r h => hg r (Got.step hG h)⟩
    · try dsimp only
      rw [if_neg (by simpa using hc2), if_pos hc3] at hG; exact (stepG_lt hG h0 hl h8).1
  try simp only [sk] at hc3
  have hA2 : 0 ≤ (stepR s g).2.2.at_ ∧ (stepR s g).2.2.fin = g.fin ∧ (stepR s g).2.2.ls = g.ls := by rcases hA with h | h | h; exact h; rw [hc3] at h; cases h; exact absurd hc2 h
  have hsum := labs_sum hl
  refine CW.seq ?_
  refine CW.region ?_
  refine W.p O.mv ?_
  refine W.p O.nc ?_
  first | refine W.p O.fb ?_ | refine W.p O.fa ?_
  refine W.p O.ld ?_
  refine W.p O.lss ?_
  refine W.p O.as ?_
  refine WL.nil (Q.tn ?_)
  refine CW.cond (vt rfl) (fun hc4 => ?_) (fun hc4 => ?_)
  · try simp only [sk] at hc4
    refine CW.region ?_
    refine W.p O.mv ?_
    refine W.p O.mv ?_
    refine W.p O.nc ?_
    first | refine W.p O.fb ?_ | refine W.p O.fa ?_
    refine W.p O.ld ?_
    refine W.p O.nc ?_
    first | refine W.p O.fb ?_ | refine W.p O.fa ?_
    first | refine W.st (vt rfl) (vt rfl) rfl ?_ | refine W.st (u := .int _ _) (vt rfl) (vt rfl) rfl ?_
    refine WL.nil (Q.bn (Q.tn ?_))
    refine CW.seq ?_
    refine CW.draw 12 rfl (by kernel_rfl) ?_
    refine WQ.p O.mv ?_
    refine WQ.p O.nc ?_
    first | refine WQ.p O.fb ?_ | refine WQ.p O.fa ?_
    refine WQ.p O.ld ?_
    refine WQ.q (O.call ⟨rfl, rfl⟩ (AV.cons (vt rfl) (AV.cons (vt rfl) (AV.nil))) (fun _ w hw => st_Join1 _ 46 _ _ w (RowL.h _ hw) hk2.2.2.1 (by rw [hA2.2.2]; omega))) ?_
    refine WQ.p O.mv ?_
    refine WQ.p O.nc ?_
    first | refine WQ.p O.fb ?_ | refine WQ.p O.fa ?_
    refine WQ.p O.ld ?_
    refine WQ.p O.as ?_
    refine WQ.p O.as ?_
    refine WQ.p O.as ?_
    refine WQ.nil ?_
    refine WL.nil (Q.tn ?_)
    refine CW.ret (Q.br (Q.tr (Q.br ?_)))
    refine ⟨_, [], (RVs.tmp rfl (RVs.tmp rfl (RVs.tmp rfl RVs.nil))), List.nil_sublist _, ?_⟩
    refine ⟨?_, rfl⟩
    rw [if_neg (by simpa using hc2), if_neg (by simpa using hc3)] at hG
    rw [getName_eq (by omega) (hg _ (Got.stop hG)), joinB_dot, hA2.2.2, if_pos (by rw [← hA2.2.1]; exact hc4)]; rfl
  try simp only [sk] at hc4
  refine CW.skip (Q.bn (Q.tn ?_))
  refine CW.seq ?_
  refine CW.draw 12 rfl (by kernel_rfl) ?_
  refine WQ.p O.mv ?_
  refine WQ.p O.nc ?_
  first | refine WQ.p O.fb ?_ | refine WQ.p O.fa ?_
  refine WQ.p O.ld ?_
  refine WQ.q (O.call ⟨rfl, rfl⟩ (AV.cons (vt rfl) (AV.cons (vt rfl) (AV.nil))) (fun _ w hw => st_Join1 _ 46 _ _ w (RowL.h _ hw) hk2.2.2.1 (by rw [hA2.2.2]; omega))) ?_
  refine WQ.p O.mv ?_
  refine WQ.p O.nc ?_
  first | refine WQ.p O.fb ?_ | refine WQ.p O.fa ?_
  refine WQ.p O.ld ?_
  refine WQ.p O.as ?_
  refine WQ.p O.as ?_
  refine WQ.p O.as ?_
  refine WQ.nil ?_
  refine WL.nil (Q.tn ?_)
  refine CW.ret (Q.br (Q.tr (Q.br ?_)))
  refine ⟨_, [], (RVs.tmp rfl (RVs.tmp rfl (RVs.tmp rfl RVs.nil))), List.nil_sublist _, ?_⟩
  refine ⟨?_, rfl⟩
  rw [if_neg (by simpa using hc2), if_neg (by simpa using hc3)] at hG
  rw [getName_eq (by omega) (hg _ (Got.stop hG)), joinB_dot, hA2.2.2, if_neg (by rw [← hA2.2.1]; exact hc4), hA2.2.1]; rfl
end Go.Proofs.Ytkjcmdgideddnaa
