/- The statement PacketHeads: its walk. Conditions: what comes in is not longer than some millions. -/
import Derived.Test.YtkjcmdgideddnaaL7
import Derived.Test.YtkjcmdgideddnaaPkB
import Derived.Laws.BitsLemmas
set_option linter.unusedVariables false
set_option linter.unusedSimpArgs false
namespace Go.Proofs.Ytkjcmdgideddnaa
open Go Go.RowKit
theorem or_n (i : Nat) (hi : (2 : Int) ^ i ≤ 4611686018427387904) {x y : Int} (x0 : 0 ≤ x) (x1 : x < 4611686018427387904) (hx : x % 2 ^ i = 0) (y0 : 0 ≤ y) (y1 : y < 2 ^ i) : bits .or .i64 x y = x + y :=
  bits_join .i64 62 (by decide) (fun n h0 h1 => wrap_in n (by omega)) i x y x0 hx (by omega) y0 y1 (by omega)
theorem by_rng (a : UInt8) : 0 ≤ (a.toNat : Int) ∧ (a.toNat : Int) < 256 := by have := a.toNat_lt; omega
theorem be4 (a b c d : UInt8) : bits .or .i64 (bits .or .i64 (bits .or .i64 (IntKind.i64.wrap ((a.toNat : Int) * 2 ^ (24 : Int).toNat)) (IntKind.i64.wrap ((b.toNat : Int) * 2 ^ (16 : Int).toNat))) (IntKind.i64.wrap ((c.toNat : Int) * 2 ^ (8 : Int).toNat))) (d.toNat : Int) = numI [a, b, c, d] := by
  have ha := by_rng a
  have hb := by_rng b
  have hc := by_rng c
  have hd := by_rng d
  have e1 : (2 : Int) ^ (24 : Int).toNat = 16777216 := by decide
  have e2 : (2 : Int) ^ (16 : Int).toNat = 65536 := by decide
  have e3 : (2 : Int) ^ (8 : Int).toNat = 256 := by decide
  rw [e1, e2, e3, wrap_in _ (by omega), wrap_in _ (by omega), wrap_in _ (by omega)]
  rw [or_n (x := (a.toNat : Int) * 16777216) (y := (b.toNat : Int) * 65536) 24 (by decide) (by omega) (by omega) (by omega) (by omega) (by omega), or_n (y := (c.toNat : Int) * 256) 16 (by decide) (by omega) (by omega) (by omega) (by omega) (by omega), or_n (y := (d.toNat : Int)) 8 (by decide) (by omega) (by omega) (by omega) (by omega) (by omega)]
  simp only [numI, List.foldl_cons, List.foldl_nil]; omega
theorem be2 (c d : UInt8) : bits .or .i64 (IntKind.i64.wrap ((c.toNat : Int) * 2 ^ (8 : Int).toNat)) (d.toNat : Int) = numI [c, d] := by
  have hc := by_rng c
  have hd := by_rng d
  have e3 : (2 : Int) ^ (8 : Int).toNat = 256 := by decide
  rw [e3, wrap_in _ (by omega), or_n 8 (by decide) (by omega) (by omega) (by omega) (by omega) (by omega)]
  simp only [numI, List.foldl_cons, List.foldl_nil]; omega
theorem slc_2 {s : List UInt8} {k : Int} (h0 : 0 ≤ k) (h : k + 2 ≤ s.length) : slc s k (k + 2) = [s.getD k.toNat 0, s.getD (k + 1).toNat 0] := by
  rw [show k + 2 = k + 1 + 1 by omega, slc_more h0 (by omega) (by omega), slc_one h0 (by omega)]; rfl
theorem slc_4 {s : List UInt8} {k : Int} (h0 : 0 ≤ k) (h : k + 4 ≤ s.length) : slc s k (k + 4) = [s.getD k.toNat 0, s.getD (k + 1).toNat 0, s.getD (k + 2).toNat 0, s.getD (k + 3).toNat 0] := by
  rw [show k + 4 = k + 3 + 1 by omega, slc_more h0 (by omega) (by omega), show k + 3 = k + 2 + 1 by omega, slc_more h0 (by omega) (by omega), slc_2 h0 (by omega)]; rfl
abbrev BE4 (s : List UInt8) (k : Int) : Int := bits .or .i64 (bits .or .i64 (bits .or .i64 (IntKind.i64.wrap (((s.getD k.toNat 0).toNat : Int) * 2 ^ (24 : Int).toNat)) (IntKind.i64.wrap (((s.getD (k + 1).toNat 0).toNat : Int) * 2 ^ (16 : Int).toNat))) (IntKind.i64.wrap (((s.getD (k + 2).toNat 0).toNat : Int) * 2 ^ (8 : Int).toNat))) ((s.getD (k + 3).toNat 0).toNat : Int)
abbrev BE2 (s : List UInt8) (k : Int) : Int := bits .or .i64 (IntKind.i64.wrap (((s.getD k.toNat 0).toNat : Int) * 2 ^ (8 : Int).toNat)) ((s.getD (k + 1).toNat 0).toNat : Int)
theorem BE4_num {s : List UInt8} {k : Int} (h0 : 0 ≤ k) (h : k + 4 ≤ s.length) : BE4 s k = numI (slc s k (k + 4)) := by rw [slc_4 h0 h]; exact be4 _ _ _ _
theorem BE2_num {s : List UInt8} {k : Int} (h0 : 0 ≤ k) (h : k + 2 ≤ s.length) : BE2 s k = numI (slc s k (k + 2)) := by rw [slc_2 h0 h]; exact be2 _ _
theorem BE1_num {s : List UInt8} {k : Int} (h0 : 0 ≤ k) (h : k + 1 ≤ s.length) : ((s.getD k.toNat 0).toNat : Int) = numI (slc s k (k + 1)) := by rw [slc_one h0 (by omega)]; exact (numI_one _).symm
section
variable {P : Program} {n : Nat} {w0 : World} {L0 : Heap} {l : List Oper} {Lr : Heap} {E : Env} {L : Heap} {Q : Post} {fuel : Nat} {s : Array Bool} {d : Nat}
theorem RH.kn {G b v : Bool} (hG : G = true) (h : b = v) (k : RH P n w0 L0 l Lr fuel s ((d, true, .bool v) :: E) L Q) : RH P n w0 L0 l Lr fuel s ((d, G, .bool b) :: E) L Q := by subst hG; subst h; exact k
end
/-- where a packet's numbers stand -/
theorem pk_at {p : Pkt} (h0 : (pkPut p).2 = 0) : (∀ k : Int, k = 0 ∨ k = 1 ∨ k = 2 ∨ k = 3 → (((pkPut p).1.getD k.toNat 0).toNat : Int) = (FV p p.chaddr.length).getD k.toNat 0) ∧ BE4 (pkPut p).1 4 = p.xid ∧ BE2 (pkPut p).1 8 = p.secs ∧ BE2 (pkPut p).1 10 = p.flags ∧ (∀ i : Int, 0 ≤ i → i < 4 → BE4 (pkPut p).1 (12 + 4 * i) = ([p.ciaddr, p.yiaddr, p.siaddr, p.giaddr] : List Int).getD i.toNat 0) ∧ slc (pkPut p).1 28 (28 + (p.chaddr.length : Int)) = p.chaddr ∧ slc (pkPut p).1 44 236 = List.replicate 192 0 ∧ 240 ≤ (pkPut p).1.length ∧ p.chaddr.length ≤ 16 := by
  obtain ⟨he, hm, hp⟩ := pkPut_ok h0
  have h16 : p.chaddr.length ≤ 16 := by simp only [pkMay, Bool.and_eq_true, decide_eq_true_eq] at hm; exact hm.1.1
  have hl := (pk_ck p [] h16).2.2
  have nm := fun i (hi : i < 11) => pk_nums hm [] hi
  rw [he]
  dsimp only
  simp only [List.append_nil] at nm
  have hch := pk_ch p []
  have hz := pk_zero p [] h16
  simp only [List.append_nil] at hch hz
  refine ⟨?_, ?_, ?_, ?_, ?_, hch, hz, by omega, h16⟩
  · rintro k (rfl | rfl | rfl | rfl)
    · rw [BE1_num (by omega) (by omega)]; exact nm 0 (by decide)
    · rw [BE1_num (by omega) (by omega)]; exact nm 1 (by decide)
    · rw [BE1_num (by omega) (by omega)]; exact nm 2 (by decide)
    · rw [BE1_num (by omega) (by omega)]; exact nm 3 (by decide)
  · rw [BE4_num (by omega) (by omega)]; exact nm 4 (by decide)
  · rw [BE2_num (by omega) (by omega)]; exact nm 5 (by decide)
  · rw [BE2_num (by omega) (by omega)]; exact nm 6 (by decide)
  · intro i i0 i4
    rw [BE4_num (by omega) (by omega)]
    rcases (by omega : i = 0 ∨ i = 1 ∨ i = 2 ∨ i = 3) with rfl | rfl | rfl | rfl
    · exact nm 7 (by decide)
    · exact nm 8 (by decide)
    · exact nm 9 (by decide)
    · exact nm 10 (by decide)
set_option maxRecDepth 100000 in
set_option maxHeartbeats 2000000 in
theorem law7_PacketHeads (p : Pkt) (a : Option Addr) (c : Nat) (w : World) (h : In w a (p.opts.flatMap encO)) (h1 : p.opts.length ≤ 1048576) : Fn Try.prog 19 [vPk p a c] w [] fun v L' => v = .bool true ∧ L' = [] := by
  have row := Row.ofE h
  refine Fn.enter Try.func19 rfl rfl rfl rfl (Holds.nil w) ?_
  refine CW.seq ?_
  refine CW.region ?_
  refine W.bx rfl (vt rfl) rfl fun b1 => ?_
  refine W.p O.as ?_
  refine WL.nil (Q.tn ?_)
  refine CW.seq ?_
  refine CW.seq ?_
  refine CW.region ?_
  refine W.q (O.call ⟨rfl, rfl⟩ (AV.nil) (fun _ w hw => law7_awake w)) ?_
  refine W.p O.nt ?_
  refine WL.nil (Q.tn ?_)
  refine CW.cond (vt rfl) (fun hc1 => ?_) (fun hc1 => ?_)
  · exact absurd hc1 (by decide)
  try simp only [Bool.cond_true_left, Bool.cond_false_right, Bool.or_eq_true, Bool.or_eq_false_iff, Bool.and_eq_true, Bool.and_eq_false_iff, decide_eq_true_eq, decide_eq_false_iff_not, Bool.not_eq_true', Bool.not_eq_false'] at hc1
  refine CW.skip (Q.tn ?_)
  refine CW.seq ?_
  refine CW.region ?_
  refine W.p O.lds ?_
  refine W.q (O.call ⟨rfl, rfl⟩ (AV.cons (vt rfl) (AV.nil)) (fun _ w hw => pk_Put p a c w (row.h _ w hw) (by omega))) ?_
  refine W.p O.mv ?_
  first | refine W.p O.extL ?_ | refine W.p O.ext ?_
  first | refine W.p O.extL ?_ | refine W.p O.ext ?_
  refine W.p O.as ?_
  refine W.p O.as ?_
  refine WL.nil (Q.tn ?_)
  refine CW.seq ?_
  refine CW.seq ?_
  refine CW.region ?_
  refine W.p O.mv ?_
  refine W.q (O.call ⟨rfl, rfl⟩ (AV.cons (vt rfl) (AV.nil)) (fun _ w hw => law0_Num _ w)) ?_
  refine W.p O.neI ?_
  refine W.p O.mv ?_
  refine W.p O.mv ?_
  refine W.p O.len ?_
  refine W.p O.lss ?_
  refine W.p O.pkB ?_
  refine WL.nil (Q.tn ?_)
  refine CW.cond (vt rfl) (fun hc2 => ?_) (fun hc2 => ?_)
  · try simp only [Bool.cond_true_left, Bool.cond_false_right, Bool.or_eq_true, Bool.or_eq_false_iff, Bool.and_eq_true, Bool.and_eq_false_iff, decide_eq_true_eq, decide_eq_false_iff_not, Bool.not_eq_true', Bool.not_eq_false'] at hc2
    refine CW.seq ?_
    refine CW.region ?_
    refine W.p O.mv ?_
    refine W.p O.eqS ?_
    refine W.p O.as ?_
    refine WL.nil (Q.tn ?_)
    refine CW.ret (Q.tr ?_)
    refine ⟨_, [], (RVs.tmp rfl RVs.nil), List.nil_sublist _, ?_⟩
    refine ⟨?_, rfl⟩
    rw [pkPut_nok (by intro e; have := (pk_at e).2.2.2.2.2.2.2.1; rcases hc2 with h | h; exact h e; omega)]; rfl
  try simp only [Bool.cond_true_left, Bool.cond_false_right, Bool.or_eq_true, Bool.or_eq_false_iff, Bool.and_eq_true, Bool.and_eq_false_iff, decide_eq_true_eq, decide_eq_false_iff_not, Bool.not_eq_true', Bool.not_eq_false'] at hc2
  obtain ⟨hX, hX4, hX8, hX10, hXL, hX28, hX44, hX240, hX16⟩ := pk_at (show (pkPut p).2 = 0 by simpa using hc2.1)
  refine CW.skip (Q.tn ?_)
  refine CW.seq ?_
  refine CW.region ?_
  first | refine W.p O.fb ?_ | refine W.p O.fa ?_
  refine W.p O.ld ?_
  first | refine W.p O.fb ?_ | refine W.p O.fa ?_
  refine W.p O.ld ?_
  first | refine W.p O.fb ?_ | refine W.p O.fa ?_
  refine W.p O.ld ?_
  first | refine W.p O.fb ?_ | refine W.p O.fa ?_
  refine W.p O.ld ?_
  refine W.bs encI [p.ciaddr, p.yiaddr, p.siaddr, p.giaddr] rfl (PV.cons (vt rfl) (PV.cons (vt rfl) (PV.cons (vt rfl) (PV.cons (vt rfl) (PV.nil))))) rfl rfl rfl (by decide) rfl fun b2 => ?_
  refine W.p O.as ?_
  refine WL.nil (Q.tn ?_)
  refine CW.seq ?_
  refine CW.seq ?_
  refine CW.region ?_
  refine W.p O.as ?_
  refine WL.nil (Q.tn ?_)
  refine CW.block ?_
  refine CW.loop (X := Int) (fun i => [(1, true, .pointer (some ⟨b1, 0, none⟩)), (3, true, .string (S (pkPut p).1)), (5, true, .slice (oa (some b2)) 4 4), (6, true, .int .i64 i)]) (fun i => rowL (some b2) 3 (flat encI [p.ciaddr, p.yiaddr, p.siaddr, p.giaddr] []) ++ [(b1, .cells (encPk p a c).toArray 72 (0, 0))]) (fun i => 0 ≤ i ∧ i ≤ 4) (fun i => (4 - i).toNat) (0) ?_ (by repeat (first | exact trivial | refine ⟨rfl, ?_⟩ | refine ⟨by (simp only [List.length_set]; rfl), ?_⟩)) (by repeat (first | exact List.Sublist.refl _ | exact List.sublist_append_left _ _ | exact List.nil_sublist _ | refine List.Sublist.append (List.Sublist.refl _) ?_ | apply List.Sublist.cons_cons | apply List.Sublist.cons | refine List.Sublist.trans ?_ (List.sublist_append_right _ _))) ?_
  · exact ⟨by omega, by omega⟩
  rintro i hI
  try dsimp only at hI ⊢
  obtain ⟨h0, hi1⟩ := hI
  refine CW.seq ?_
  refine CW.seq ?_
  refine CW.region ?_
  refine W.p O.mv ?_
  refine W.p O.lss ?_
  refine WL.nil (Q.tn ?_)
  refine CW.cond (vt rfl) (fun hc3 => ?_) (fun hc3 => ?_)
  · try simp only [Bool.cond_true_left, Bool.cond_false_right, Bool.or_eq_true, Bool.or_eq_false_iff, Bool.and_eq_true, Bool.and_eq_false_iff, decide_eq_true_eq, decide_eq_false_iff_not, Bool.not_eq_true', Bool.not_eq_false'] at hc3
    refine CW.skip (Q.tn ?_)
    refine CW.seq ?_
    refine CW.block ?_
    refine CW.seq ?_
    refine CW.region ?_
    refine W.p O.mv ?_
    first | refine W.p O.mulN ?_ | refine W.p O.mul ?_
    first | refine W.p O.addN ?_ | refine W.p O.add ?_
    refine W.p O.as ?_
    refine WL.nil (Q.tn ?_)
    refine CW.seq ?_
    refine CW.draw 30 rfl (by kernel_rfl) ?_
    refine WQ.p O.mv ?_
    refine WQ.p O.mv ?_
    first | refine WQ.p O.idxS ?_ | refine WQ.p (O.idxS (h := fun hg => by simp only [cond_true, cond_false, Bool.true_and, Bool.cond_false_right, Bool.cond_true_left, Bool.and_eq_true, Bool.or_eq_true, Bool.or_eq_false_iff, Bool.and_eq_false_iff, Bool.not_eq_true', Bool.not_eq_false', decide_eq_true_eq, decide_eq_false_iff_not, Int.reduceToNat] at *; omega)) ?_
    first | refine WQ.p O.cvB ?_ | refine WQ.p O.cv ?_
    refine WQ.p O.shl ?_
    refine WQ.p O.mv ?_
    refine WQ.p O.mv ?_
    first | refine WQ.p O.addN ?_ | refine WQ.p O.add ?_
    first | refine WQ.p O.idxS ?_ | refine WQ.p (O.idxS (h := fun hg => by simp only [cond_true, cond_false, Bool.true_and, Bool.cond_false_right, Bool.cond_true_left, Bool.and_eq_true, Bool.or_eq_true, Bool.or_eq_false_iff, Bool.and_eq_false_iff, Bool.not_eq_true', Bool.not_eq_false', decide_eq_true_eq, decide_eq_false_iff_not, Int.reduceToNat] at *; omega)) ?_
    first | refine WQ.p O.cvB ?_ | refine WQ.p O.cv ?_
    refine WQ.p O.shl ?_
    refine WQ.p O.or ?_
    refine WQ.p O.mv ?_
    refine WQ.p O.mv ?_
    first | refine WQ.p O.addN ?_ | refine WQ.p O.add ?_
    first | refine WQ.p O.idxS ?_ | refine WQ.p (O.idxS (h := fun hg => by simp only [cond_true, cond_false, Bool.true_and, Bool.cond_false_right, Bool.cond_true_left, Bool.and_eq_true, Bool.or_eq_true, Bool.or_eq_false_iff, Bool.and_eq_false_iff, Bool.not_eq_true', Bool.not_eq_false', decide_eq_true_eq, decide_eq_false_iff_not, Int.reduceToNat] at *; omega)) ?_
    first | refine WQ.p O.cvB ?_ | refine WQ.p O.cv ?_
    refine WQ.p O.shl ?_
    refine WQ.p O.or ?_
    refine WQ.p O.mv ?_
    refine WQ.p O.mv ?_
    first | refine WQ.p O.addN ?_ | refine WQ.p O.add ?_
    first | refine WQ.p O.idxS ?_ | refine WQ.p (O.idxS (h := fun hg => by simp only [cond_true, cond_false, Bool.true_and, Bool.cond_false_right, Bool.cond_true_left, Bool.and_eq_true, Bool.or_eq_true, Bool.or_eq_false_iff, Bool.and_eq_false_iff, Bool.not_eq_true', Bool.not_eq_false', decide_eq_true_eq, decide_eq_false_iff_not, Int.reduceToNat] at *; omega)) ?_
    first | refine WQ.p O.cvB ?_ | refine WQ.p O.cv ?_
    refine WQ.p O.or ?_
    refine WQ.p O.mv ?_
    refine WQ.p O.mv ?_
    refine WQ.p O.ixA ?_
    refine WQ.p O.ldE ?_
    refine WQ.p O.neI ?_
    refine WQ.nil ?_
    refine WL.nil (Q.tn ?_)
    refine CW.cond (vt rfl) (fun hc4 => ?_) (fun hc4 => ?_)
    · exact absurd (hXL i h0 hc3) (fun e => by have q : (!decide (BE4 (pkPut p).1 (12 + 4 * i) = ([p.ciaddr, p.yiaddr, p.siaddr, p.giaddr] : List Int).getD i.toNat 0)) = true := hc4; rw [decide_eq_true e] at q; cases q)
    try simp only [Bool.cond_true_left, Bool.cond_false_right, Bool.or_eq_true, Bool.or_eq_false_iff, Bool.and_eq_true, Bool.and_eq_false_iff, decide_eq_true_eq, decide_eq_false_iff_not, Bool.not_eq_true', Bool.not_eq_false'] at hc4
    refine CW.skip (Q.bn (Q.tn ?_))
    refine CW.region ?_
    refine W.p O.mv ?_
    first | refine W.p O.addN ?_ | refine W.p O.add ?_
    refine W.p O.as ?_
    refine WL.nil (Q.tn ?_)
    refine ⟨(_), ?_, ?_, (by repeat (first | exact trivial | refine ⟨rfl, ?_⟩ | refine ⟨by (simp only [List.length_set]; rfl), ?_⟩)), (by repeat (first | exact List.Sublist.refl _ | exact List.sublist_append_left _ _ | exact List.nil_sublist _ | refine List.Sublist.append (List.Sublist.refl _) ?_ | apply List.Sublist.cons_cons | apply List.Sublist.cons | refine List.Sublist.trans ?_ (List.sublist_append_right _ _)))⟩
    · try dsimp only
      exact ⟨by omega, by omega⟩
    · try dsimp only
      omega
  try simp only [Bool.cond_true_left, Bool.cond_false_right, Bool.or_eq_true, Bool.or_eq_false_iff, Bool.and_eq_true, Bool.and_eq_false_iff, decide_eq_true_eq, decide_eq_false_iff_not, Bool.not_eq_true', Bool.not_eq_false'] at hc3
  refine CW.exit (Q.te (Q.te (Q.bx (Q.tn ?_))))
  refine CW.seq ?_
  refine CW.drawHL rfl ?_
  refine RH.qa (hb := by decide +kernel) 0 rfl (O.mv) ?_
  first | refine RH.qa (hb := by decide +kernel) 1 rfl (O.idxS) ?_ | refine RH.qa (hb := by decide +kernel) 1 rfl (O.idxS (h := fun hg => by simp only [cond_true, cond_false, Bool.true_and, Bool.cond_false_right, Bool.cond_true_left, Bool.and_eq_true, Bool.or_eq_true, Bool.or_eq_false_iff, Bool.and_eq_false_iff, Bool.not_eq_true', Bool.not_eq_false', decide_eq_true_eq, decide_eq_false_iff_not, Int.reduceToNat] at *; omega)) ?_
  first | refine RH.qa (hb := by decide +kernel) 2 rfl (O.cvB) ?_ | refine RH.qa (hb := by decide +kernel) 2 rfl (O.cv) ?_
  first | refine RH.qa (hb := by decide +kernel) 3 rfl (O.fb) ?_ | refine RH.qa (hb := by decide +kernel) 3 rfl (O.fa) ?_
  refine RH.qa (hb := by decide +kernel) 4 rfl (O.ld) ?_
  refine RH.qa (hb := by decide +kernel) 5 rfl (O.eqI) ?_
  refine RH.kn (v := true) (by rfl) ?_ ?_; focus (first | exact decide_eq_true hX4 | exact decide_eq_true hX8 | exact decide_eq_true hX10 | exact decide_eq_true hX28 | exact decide_eq_true hX44 | exact decide_eq_true (hX 0 (.inl rfl)) | exact decide_eq_true (hX 1 (.inr (.inl rfl))) | exact decide_eq_true (hX 2 (.inr (.inr (.inl rfl)))) | exact decide_eq_true (hX 3 (.inr (.inr (.inr rfl)))))
  refine RH.qa (hb := by decide +kernel) 6 rfl (O.mv) ?_
  refine RH.qa (hb := by decide +kernel) 7 rfl (O.mv) ?_
  first | refine RH.qa (hb := by decide +kernel) 8 rfl (O.idxS) ?_ | refine RH.qa (hb := by decide +kernel) 8 rfl (O.idxS (h := fun hg => by simp only [cond_true, cond_false, Bool.true_and, Bool.cond_false_right, Bool.cond_true_left, Bool.and_eq_true, Bool.or_eq_true, Bool.or_eq_false_iff, Bool.and_eq_false_iff, Bool.not_eq_true', Bool.not_eq_false', decide_eq_true_eq, decide_eq_false_iff_not, Int.reduceToNat] at *; omega)) ?_
  first | refine RH.qa (hb := by decide +kernel) 9 rfl (O.cvB) ?_ | refine RH.qa (hb := by decide +kernel) 9 rfl (O.cv) ?_
  first | refine RH.qa (hb := by decide +kernel) 10 rfl (O.fb) ?_ | refine RH.qa (hb := by decide +kernel) 10 rfl (O.fa) ?_
  refine RH.qa (hb := by decide +kernel) 11 rfl (O.ld) ?_
  refine RH.qa (hb := by decide +kernel) 12 rfl (O.eqI) ?_
  refine RH.kn (v := true) (by rfl) ?_ ?_; focus (first | exact decide_eq_true hX4 | exact decide_eq_true hX8 | exact decide_eq_true hX10 | exact decide_eq_true hX28 | exact decide_eq_true hX44 | exact decide_eq_true (hX 0 (.inl rfl)) | exact decide_eq_true (hX 1 (.inr (.inl rfl))) | exact decide_eq_true (hX 2 (.inr (.inr (.inl rfl)))) | exact decide_eq_true (hX 3 (.inr (.inr (.inr rfl)))))
  refine RH.qa (hb := by decide +kernel) 13 rfl (O.pkB) ?_
  refine RH.qa (hb := by decide +kernel) 14 rfl (O.mv) ?_
  refine RH.qa (hb := by decide +kernel) 15 rfl (O.mv) ?_
  first | refine RH.qa (hb := by decide +kernel) 16 rfl (O.idxS) ?_ | refine RH.qa (hb := by decide +kernel) 16 rfl (O.idxS (h := fun hg => by simp only [cond_true, cond_false, Bool.true_and, Bool.cond_false_right, Bool.cond_true_left, Bool.and_eq_true, Bool.or_eq_true, Bool.or_eq_false_iff, Bool.and_eq_false_iff, Bool.not_eq_true', Bool.not_eq_false', decide_eq_true_eq, decide_eq_false_iff_not, Int.reduceToNat] at *; omega)) ?_
  first | refine RH.qa (hb := by decide +kernel) 17 rfl (O.cvB) ?_ | refine RH.qa (hb := by decide +kernel) 17 rfl (O.cv) ?_
  first | refine RH.qa (hb := by decide +kernel) 18 rfl (O.fb) ?_ | refine RH.qa (hb := by decide +kernel) 18 rfl (O.fa) ?_
  refine RH.qa (hb := by decide +kernel) 19 rfl (O.ld) ?_
  refine RH.qa (hb := by decide +kernel) 20 rfl (O.len) ?_
  refine RH.qa (hb := by decide +kernel) 21 rfl (O.eqI) ?_
  refine RH.kn (v := true) (by rfl) ?_ ?_; focus (first | exact decide_eq_true hX4 | exact decide_eq_true hX8 | exact decide_eq_true hX10 | exact decide_eq_true hX28 | exact decide_eq_true hX44 | exact decide_eq_true (hX 0 (.inl rfl)) | exact decide_eq_true (hX 1 (.inr (.inl rfl))) | exact decide_eq_true (hX 2 (.inr (.inr (.inl rfl)))) | exact decide_eq_true (hX 3 (.inr (.inr (.inr rfl)))))
  refine RH.qa (hb := by decide +kernel) 22 rfl (O.pkB) ?_
  refine RH.qa (hb := by decide +kernel) 23 rfl (O.mv) ?_
  refine RH.qa (hb := by decide +kernel) 24 rfl (O.mv) ?_
  first | refine RH.qa (hb := by decide +kernel) 25 rfl (O.idxS) ?_ | refine RH.qa (hb := by decide +kernel) 25 rfl (O.idxS (h := fun hg => by simp only [cond_true, cond_false, Bool.true_and, Bool.cond_false_right, Bool.cond_true_left, Bool.and_eq_true, Bool.or_eq_true, Bool.or_eq_false_iff, Bool.and_eq_false_iff, Bool.not_eq_true', Bool.not_eq_false', decide_eq_true_eq, decide_eq_false_iff_not, Int.reduceToNat] at *; omega)) ?_
  first | refine RH.qa (hb := by decide +kernel) 26 rfl (O.cvB) ?_ | refine RH.qa (hb := by decide +kernel) 26 rfl (O.cv) ?_
  first | refine RH.qa (hb := by decide +kernel) 27 rfl (O.fb) ?_ | refine RH.qa (hb := by decide +kernel) 27 rfl (O.fa) ?_
  refine RH.qa (hb := by decide +kernel) 28 rfl (O.ld) ?_
  refine RH.qa (hb := by decide +kernel) 29 rfl (O.eqI) ?_
  refine RH.kn (v := true) (by rfl) ?_ ?_; focus (first | exact decide_eq_true hX4 | exact decide_eq_true hX8 | exact decide_eq_true hX10 | exact decide_eq_true hX28 | exact decide_eq_true hX44 | exact decide_eq_true (hX 0 (.inl rfl)) | exact decide_eq_true (hX 1 (.inr (.inl rfl))) | exact decide_eq_true (hX 2 (.inr (.inr (.inl rfl)))) | exact decide_eq_true (hX 3 (.inr (.inr (.inr rfl)))))
  refine RH.qa (hb := by decide +kernel) 30 rfl (O.pkB) ?_
  refine RH.qa (hb := by decide +kernel) 31 rfl (O.mv) ?_
  refine RH.qa (hb := by decide +kernel) 32 rfl (O.mv) ?_
  first | refine RH.qa (hb := by decide +kernel) 33 rfl (O.idxS) ?_ | refine RH.qa (hb := by decide +kernel) 33 rfl (O.idxS (h := fun hg => by simp only [cond_true, cond_false, Bool.true_and, Bool.cond_false_right, Bool.cond_true_left, Bool.and_eq_true, Bool.or_eq_true, Bool.or_eq_false_iff, Bool.and_eq_false_iff, Bool.not_eq_true', Bool.not_eq_false', decide_eq_true_eq, decide_eq_false_iff_not, Int.reduceToNat] at *; omega)) ?_
  first | refine RH.qa (hb := by decide +kernel) 34 rfl (O.cvB) ?_ | refine RH.qa (hb := by decide +kernel) 34 rfl (O.cv) ?_
  refine RH.qa (hb := by decide +kernel) 35 rfl (O.shl) ?_
  refine RH.qa (hb := by decide +kernel) 36 rfl (O.mv) ?_
  first | refine RH.qa (hb := by decide +kernel) 37 rfl (O.idxS) ?_ | refine RH.qa (hb := by decide +kernel) 37 rfl (O.idxS (h := fun hg => by simp only [cond_true, cond_false, Bool.true_and, Bool.cond_false_right, Bool.cond_true_left, Bool.and_eq_true, Bool.or_eq_true, Bool.or_eq_false_iff, Bool.and_eq_false_iff, Bool.not_eq_true', Bool.not_eq_false', decide_eq_true_eq, decide_eq_false_iff_not, Int.reduceToNat] at *; omega)) ?_
  first | refine RH.qa (hb := by decide +kernel) 38 rfl (O.cvB) ?_ | refine RH.qa (hb := by decide +kernel) 38 rfl (O.cv) ?_
  refine RH.qa (hb := by decide +kernel) 39 rfl (O.shl) ?_
  refine RH.qa (hb := by decide +kernel) 40 rfl (O.or) ?_
  refine RH.qa (hb := by decide +kernel) 41 rfl (O.mv) ?_
  first | refine RH.qa (hb := by decide +kernel) 42 rfl (O.idxS) ?_ | refine RH.qa (hb := by decide +kernel) 42 rfl (O.idxS (h := fun hg => by simp only [cond_true, cond_false, Bool.true_and, Bool.cond_false_right, Bool.cond_true_left, Bool.and_eq_true, Bool.or_eq_true, Bool.or_eq_false_iff, Bool.and_eq_false_iff, Bool.not_eq_true', Bool.not_eq_false', decide_eq_true_eq, decide_eq_false_iff_not, Int.reduceToNat] at *; omega)) ?_
  first | refine RH.qa (hb := by decide +kernel) 43 rfl (O.cvB) ?_ | refine RH.qa (hb := by decide +kernel) 43 rfl (O.cv) ?_
  refine RH.qa (hb := by decide +kernel) 44 rfl (O.shl) ?_
  refine RH.qa (hb := by decide +kernel) 45 rfl (O.or) ?_
  refine RH.qa (hb := by decide +kernel) 46 rfl (O.mv) ?_
  first | refine RH.qa (hb := by decide +kernel) 47 rfl (O.idxS) ?_ | refine RH.qa (hb := by decide +kernel) 47 rfl (O.idxS (h := fun hg => by simp only [cond_true, cond_false, Bool.true_and, Bool.cond_false_right, Bool.cond_true_left, Bool.and_eq_true, Bool.or_eq_true, Bool.or_eq_false_iff, Bool.and_eq_false_iff, Bool.not_eq_true', Bool.not_eq_false', decide_eq_true_eq, decide_eq_false_iff_not, Int.reduceToNat] at *; omega)) ?_
  first | refine RH.qa (hb := by decide +kernel) 48 rfl (O.cvB) ?_ | refine RH.qa (hb := by decide +kernel) 48 rfl (O.cv) ?_
  refine RH.qa (hb := by decide +kernel) 49 rfl (O.or) ?_
  first | refine RH.qa (hb := by decide +kernel) 50 rfl (O.fb) ?_ | refine RH.qa (hb := by decide +kernel) 50 rfl (O.fa) ?_
  refine RH.qa (hb := by decide +kernel) 51 rfl (O.ld) ?_
  refine RH.qa (hb := by decide +kernel) 52 rfl (O.eqI) ?_
  refine RH.kn (v := true) (by rfl) ?_ ?_; focus (first | exact decide_eq_true hX4 | exact decide_eq_true hX8 | exact decide_eq_true hX10 | exact decide_eq_true hX28 | exact decide_eq_true hX44 | exact decide_eq_true (hX 0 (.inl rfl)) | exact decide_eq_true (hX 1 (.inr (.inl rfl))) | exact decide_eq_true (hX 2 (.inr (.inr (.inl rfl)))) | exact decide_eq_true (hX 3 (.inr (.inr (.inr rfl)))))
  refine RH.qa (hb := by decide +kernel) 53 rfl (O.pkB) ?_
  refine RH.qa (hb := by decide +kernel) 54 rfl (O.mv) ?_
  refine RH.qa (hb := by decide +kernel) 55 rfl (O.mv) ?_
  first | refine RH.qa (hb := by decide +kernel) 56 rfl (O.idxS) ?_ | refine RH.qa (hb := by decide +kernel) 56 rfl (O.idxS (h := fun hg => by simp only [cond_true, cond_false, Bool.true_and, Bool.cond_false_right, Bool.cond_true_left, Bool.and_eq_true, Bool.or_eq_true, Bool.or_eq_false_iff, Bool.and_eq_false_iff, Bool.not_eq_true', Bool.not_eq_false', decide_eq_true_eq, decide_eq_false_iff_not, Int.reduceToNat] at *; omega)) ?_
  first | refine RH.qa (hb := by decide +kernel) 57 rfl (O.cvB) ?_ | refine RH.qa (hb := by decide +kernel) 57 rfl (O.cv) ?_
  refine RH.qa (hb := by decide +kernel) 58 rfl (O.shl) ?_
  refine RH.qa (hb := by decide +kernel) 59 rfl (O.mv) ?_
  first | refine RH.qa (hb := by decide +kernel) 60 rfl (O.idxS) ?_ | refine RH.qa (hb := by decide +kernel) 60 rfl (O.idxS (h := fun hg => by simp only [cond_true, cond_false, Bool.true_and, Bool.cond_false_right, Bool.cond_true_left, Bool.and_eq_true, Bool.or_eq_true, Bool.or_eq_false_iff, Bool.and_eq_false_iff, Bool.not_eq_true', Bool.not_eq_false', decide_eq_true_eq, decide_eq_false_iff_not, Int.reduceToNat] at *; omega)) ?_
  first | refine RH.qa (hb := by decide +kernel) 61 rfl (O.cvB) ?_ | refine RH.qa (hb := by decide +kernel) 61 rfl (O.cv) ?_
  refine RH.qa (hb := by decide +kernel) 62 rfl (O.or) ?_
  first | refine RH.qa (hb := by decide +kernel) 63 rfl (O.fb) ?_ | refine RH.qa (hb := by decide +kernel) 63 rfl (O.fa) ?_
  refine RH.qa (hb := by decide +kernel) 64 rfl (O.ld) ?_
  refine RH.qa (hb := by decide +kernel) 65 rfl (O.eqI) ?_
  refine RH.kn (v := true) (by rfl) ?_ ?_; focus (first | exact decide_eq_true hX4 | exact decide_eq_true hX8 | exact decide_eq_true hX10 | exact decide_eq_true hX28 | exact decide_eq_true hX44 | exact decide_eq_true (hX 0 (.inl rfl)) | exact decide_eq_true (hX 1 (.inr (.inl rfl))) | exact decide_eq_true (hX 2 (.inr (.inr (.inl rfl)))) | exact decide_eq_true (hX 3 (.inr (.inr (.inr rfl)))))
  refine RH.qa (hb := by decide +kernel) 66 rfl (O.pkB) ?_
  refine RH.qa (hb := by decide +kernel) 67 rfl (O.mv) ?_
  refine RH.qa (hb := by decide +kernel) 68 rfl (O.mv) ?_
  first | refine RH.qa (hb := by decide +kernel) 69 rfl (O.idxS) ?_ | refine RH.qa (hb := by decide +kernel) 69 rfl (O.idxS (h := fun hg => by simp only [cond_true, cond_false, Bool.true_and, Bool.cond_false_right, Bool.cond_true_left, Bool.and_eq_true, Bool.or_eq_true, Bool.or_eq_false_iff, Bool.and_eq_false_iff, Bool.not_eq_true', Bool.not_eq_false', decide_eq_true_eq, decide_eq_false_iff_not, Int.reduceToNat] at *; omega)) ?_
  first | refine RH.qa (hb := by decide +kernel) 70 rfl (O.cvB) ?_ | refine RH.qa (hb := by decide +kernel) 70 rfl (O.cv) ?_
  refine RH.qa (hb := by decide +kernel) 71 rfl (O.shl) ?_
  refine RH.qa (hb := by decide +kernel) 72 rfl (O.mv) ?_
  first | refine RH.qa (hb := by decide +kernel) 73 rfl (O.idxS) ?_ | refine RH.qa (hb := by decide +kernel) 73 rfl (O.idxS (h := fun hg => by simp only [cond_true, cond_false, Bool.true_and, Bool.cond_false_right, Bool.cond_true_left, Bool.and_eq_true, Bool.or_eq_true, Bool.or_eq_false_iff, Bool.and_eq_false_iff, Bool.not_eq_true', Bool.not_eq_false', decide_eq_true_eq, decide_eq_false_iff_not, Int.reduceToNat] at *; omega)) ?_
  first | refine RH.qa (hb := by decide +kernel) 74 rfl (O.cvB) ?_ | refine RH.qa (hb := by decide +kernel) 74 rfl (O.cv) ?_
  refine RH.qa (hb := by decide +kernel) 75 rfl (O.or) ?_
  first | refine RH.qa (hb := by decide +kernel) 76 rfl (O.fb) ?_ | refine RH.qa (hb := by decide +kernel) 76 rfl (O.fa) ?_
  refine RH.qa (hb := by decide +kernel) 77 rfl (O.ld) ?_
  refine RH.qa (hb := by decide +kernel) 78 rfl (O.eqI) ?_
  refine RH.kn (v := true) (by rfl) ?_ ?_; focus (first | exact decide_eq_true hX4 | exact decide_eq_true hX8 | exact decide_eq_true hX10 | exact decide_eq_true hX28 | exact decide_eq_true hX44 | exact decide_eq_true (hX 0 (.inl rfl)) | exact decide_eq_true (hX 1 (.inr (.inl rfl))) | exact decide_eq_true (hX 2 (.inr (.inr (.inl rfl)))) | exact decide_eq_true (hX 3 (.inr (.inr (.inr rfl)))))
  refine RH.qa (hb := by decide +kernel) 79 rfl (O.pkB) ?_
  refine RH.qa (hb := by decide +kernel) 80 rfl (O.mv) ?_
  refine RH.qa (hb := by decide +kernel) 81 rfl (O.mv) ?_
  first | refine RH.qa (hb := by decide +kernel) 82 rfl (O.fb) ?_ | refine RH.qa (hb := by decide +kernel) 82 rfl (O.fa) ?_
  refine RH.qa (hb := by decide +kernel) 83 rfl (O.ld) ?_
  refine RH.qa (hb := by decide +kernel) 84 rfl (O.len) ?_
  first | refine RH.qa (hb := by decide +kernel) 85 rfl (O.addN) ?_ | refine RH.qa (hb := by decide +kernel) 85 rfl (O.add) ?_
  refine RH.qa (hb := by decide +kernel) 86 rfl (O.slc) ?_
  first | refine RH.qa (hb := by decide +kernel) 87 rfl (O.fb) ?_ | refine RH.qa (hb := by decide +kernel) 87 rfl (O.fa) ?_
  refine RH.qa (hb := by decide +kernel) 88 rfl (O.ld) ?_
  refine RH.qa (hb := by decide +kernel) 89 rfl (O.eqS) ?_
  refine RH.kn (v := true) (by rfl) ?_ ?_; focus (first | exact decide_eq_true hX4 | exact decide_eq_true hX8 | exact decide_eq_true hX10 | exact decide_eq_true hX28 | exact decide_eq_true hX44 | exact decide_eq_true (hX 0 (.inl rfl)) | exact decide_eq_true (hX 1 (.inr (.inl rfl))) | exact decide_eq_true (hX 2 (.inr (.inr (.inl rfl)))) | exact decide_eq_true (hX 3 (.inr (.inr (.inr rfl)))))
  refine RH.qa (hb := by decide +kernel) 90 rfl (O.pkB) ?_
  refine RH.qa (hb := by decide +kernel) 91 rfl (O.mv) ?_
  refine RH.qa (hb := by decide +kernel) 92 rfl (O.mv) ?_
  refine RH.qa (hb := by decide +kernel) 93 rfl (O.slc) ?_
  refine RH.one (i := 94) (fun _ _ h => h) (by kernel_rfl) rfl ?_
  refine W.ug rfl ?_
  refine W.mkF rfl (vt rfl) (vt rfl) (by first | omega | decide) fun b3 => ?_
  refine WL.nilQn ⟨(by repeat (first | exact List.nil_sublist _ | exact List.Sublist.refl _ | exact List.sublist_append_left _ _ | exact List.sublist_append_right _ _ | apply List.Sublist.cons_cons | apply List.Sublist.cons | refine List.Sublist.trans ?_ (List.sublist_append_right _ _))), ?_⟩
  refine RH.one (i := 95) (fun _ _ h => h) (by kernel_rfl) rfl ?_
  refine W.p (O.cvRow ⟨rfl, rfl⟩ (vt rfl) (by first | rfl | omega) (fun _ => ⟨_, rfl⟩)) ?_
  refine WL.nilQn ⟨(by repeat (first | exact List.nil_sublist _ | exact List.Sublist.refl _ | exact List.sublist_append_left _ _ | exact List.sublist_append_right _ _ | apply List.Sublist.cons_cons | apply List.Sublist.cons | refine List.Sublist.trans ?_ (List.sublist_append_right _ _))), ?_⟩
  refine RH.qa (hb := by decide +kernel) 96 rfl (O.eqS) ?_
  refine RH.kn (v := true) (by rfl) ?_ ?_; focus (first | exact decide_eq_true hX4 | exact decide_eq_true hX8 | exact decide_eq_true hX10 | exact decide_eq_true hX28 | exact decide_eq_true hX44 | exact decide_eq_true (hX 0 (.inl rfl)) | exact decide_eq_true (hX 1 (.inr (.inl rfl))) | exact decide_eq_true (hX 2 (.inr (.inr (.inl rfl)))) | exact decide_eq_true (hX 3 (.inr (.inr (.inr rfl)))))
  refine RH.qa (hb := by decide +kernel) 97 rfl (O.pkB) ?_
  refine RH.qa (hb := by decide +kernel) 98 rfl (O.as) ?_
  refine RH.done (by kernel_rfl) (Q.tn ?_)
  refine CW.ret ?_
  refine ⟨_, [], (RVs.tmp rfl RVs.nil), List.nil_sublist _, ?_⟩
  refine ⟨?_, rfl⟩
  rfl
end Go.Proofs.Ytkjcmdgideddnaa
