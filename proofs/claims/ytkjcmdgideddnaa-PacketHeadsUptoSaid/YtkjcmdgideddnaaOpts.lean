/- What each function of package opts comes to. Conditions: the texts and rows are not longer than some 2^47 bytes. -/
import Derived.Test.YtkjcmdgideddnaaCall
import Derived.Test.YtkjcmdgideddnaaPOpts
set_option linter.unusedVariables false
set_option linter.unusedSimpArgs false
namespace Go.Proofs.Ytkjcmdgideddnaa
open Go Go.RowKit
abbrev encO : Opt → List Value := fun o => [.int .i64 o.code, .string (S o.data)]
abbrev dO : Opt := ⟨0, []⟩
instance : Enc encO 2 dO := ⟨fun _ => rfl, by decide⟩
instance : EncOne encO := ⟨fun x u hu => by simp at hu; rcases hu with rfl | rfl <;> rfl⟩
def mayF (seen : Int → Bool) : List Opt → Bool
  | [] => true
  | o :: r => if optOk o = false ∨ seen o.code = true then false else mayF (fun k => decide (k = o.code) || seen k) r
theorem all_new (c : Int) (seen : Int → Bool) : ∀ (r : List Opt), (r.all fun p => !(decide (p.code = c) || seen p.code)) = (!(r.any fun p => decide (p.code = c)) && r.all fun p => !seen p.code)
  | [] => rfl
  | p :: r => by simp only [List.all_cons, List.any_cons, all_new c seen r]; cases decide (p.code = c) <;> cases seen p.code <;> cases (r.any fun p => decide (p.code = c)) <;> simp
theorem mayF_iff : ∀ (os : List Opt) (seen : Int → Bool), mayF seen os = (os.all optOk && nodupC os && os.all fun o => !seen o.code)
  | [], _ => rfl
  | o :: r, seen => by
    simp only [mayF, List.all_cons, nodupC]
    rw [mayF_iff r, all_new]
    cases optOk o <;> cases seen o.code <;> cases r.all optOk <;> cases nodupC r <;> cases (r.any fun p => decide (p.code = o.code)) <;> simp
theorem optsMay_F (os : List Opt) : optsMay os = (mayF (fun _ => false) os && decide (os.length ≤ 32)) := by
  rw [mayF_iff, optsMay]
  have : (os.all fun o => !(fun _ => false) o.code) = true := by simp
  rw [this, Bool.and_true]
def seenM (m : List (Int × Bool)) (k : Int) : Bool := (mget m k).getD false
theorem seenM_put (m : List (Int × Bool)) (c : Int) : seenM (mput m c true) = fun k => decide (k = c) || seenM m k := by
  funext k; unfold seenM; rw [mget_mput]; by_cases h : k = c <;> simp [h]
set_option maxRecDepth 100000 in
theorem opts_May (os : List Opt) (a : Option Addr) (c : Nat) (w : World) (h : In w a (os.flatMap encO)) (hn : os.length ≤ 140737488355328) : Fn Try.prog 90 [.slice a os.length c] w [] fun v L' => v = .bool (optsMay os) ∧ L' = [] := by
  have row := Row.ofE h
  refine Fn.enter Try.func90 rfl rfl rfl rfl (Holds.nil w) ?_
  refine CW.seq ?_
  refine CW.region ?_
  refine W.p O.as ?_
  refine WL.nil (Q.tn ?_)
  refine CW.seq ?_
  refine CW.region ?_
  refine W.mm kI vB rfl fun b1 => ?_
  refine W.p O.as ?_
  refine WL.nil (Q.tn ?_)
  refine CW.seq ?_
  refine CW.seq ?_
  refine CW.region ?_
  refine W.p O.mv ?_
  refine W.p O.lenL ?_
  refine W.p O.mv ?_
  refine WL.nil (Q.tn ?_)
  refine CW.block ?_
  refine CW.loop (X := Int × (List (Int × Bool))) (fun ⟨i, m⟩ => [(0, true, .slice a os.length c), (3, true, .map (some b1)), (7, true, .slice a os.length c), (8, true, .int .i64 os.length), (9, true, .int .i64 i)]) (fun ⟨i, m⟩ => [(b1, mObj kI vB m)]) (fun ⟨i, m⟩ => 0 ≤ i ∧ i ≤ os.length ∧ mayF (fun _ => false) os = mayF (seenM m) (os.drop i.toNat)) (fun ⟨i, m⟩ => (os.length - i).toNat) (0, []) ?_ (by repeat (first | exact trivial | refine ⟨rfl, ?_⟩ | refine ⟨by (simp only [List.length_set]; rfl), ?_⟩)) (by repeat (first | exact List.Sublist.refl _ | exact List.sublist_append_left _ _ | exact List.nil_sublist _ | refine List.Sublist.append (List.Sublist.refl _) ?_ | apply List.Sublist.cons_cons | apply List.Sublist.cons | refine List.Sublist.trans ?_ (List.sublist_append_right _ _))) ?_
  · exact ⟨by omega, by omega, rfl⟩
  rintro ⟨i, m⟩ hI
  try dsimp only at hI ⊢
  obtain ⟨h0, h1, hr⟩ := hI
  refine CW.seq ?_
  refine CW.region ?_
  refine W.p O.lss ?_
  refine WL.nil (Q.tn ?_)
  refine CW.seq ?_
  refine CW.cond (vt rfl) (fun hc1 => ?_) (fun hc1 => ?_)
  · try simp only [Bool.cond_true_left, Bool.cond_false_right, Bool.or_eq_true, Bool.or_eq_false_iff, Bool.and_eq_true, Bool.and_eq_false_iff, decide_eq_true_eq, decide_eq_false_iff_not, Bool.not_eq_true', Bool.not_eq_false'] at hc1
    refine CW.skip (Q.tn ?_)
    refine CW.seq ?_
    refine CW.block ?_
    refine CW.seq ?_
    refine CW.region ?_
    refine W.p O.ixA ?_
    refine W.p O.ldsE ?_
    refine W.al rfl rfl fun b2 => ?_
    refine W.st (vt rfl) (vt rfl) rfl ?_
    refine WL.nil (Q.tn ?_)
    refine CW.seq ?_
    refine CW.seq ?_
    refine CW.region ?_
    first | refine W.p O.fb ?_ | refine W.p O.fa ?_
    refine W.p O.ld ?_
    refine W.p O.leq ?_
    refine W.p O.mv ?_
    first | refine W.p O.fb ?_ | refine W.p O.fa ?_
    refine W.p O.ld ?_
    refine W.p O.geq ?_
    refine W.p O.pkB ?_
    refine W.p O.mv ?_
    refine W.p O.mv ?_
    first | refine W.p O.fb ?_ | refine W.p O.fa ?_
    refine W.p O.ld ?_
    refine W.p (O.lk (ek := kI) (ev := vB) false) ?_
    refine W.p O.pkB ?_
    refine W.p O.mv ?_
    first | refine W.p O.fb ?_ | refine W.p O.fa ?_
    refine W.p O.ld ?_
    refine W.p O.len ?_
    refine W.p O.gtr ?_
    refine W.p O.pkB ?_
    refine WL.nil (Q.tn ?_)
    refine CW.cond (vt rfl) (fun hc2 => ?_) (fun hc2 => ?_)
    · try simp only [Bool.cond_true_left, Bool.cond_false_right, Bool.or_eq_true, Bool.or_eq_false_iff, Bool.and_eq_true, Bool.and_eq_false_iff, decide_eq_true_eq, decide_eq_false_iff_not, Bool.not_eq_true', Bool.not_eq_false'] at hc2
      refine CW.seq ?_
      refine CW.region ?_
      refine W.p O.as ?_
      refine WL.nil (Q.tn ?_)
      refine CW.ret (Q.tr (Q.br (Q.tr (Q.tr (Q.br (Q.tr ?_))))))
      refine ⟨_, [], (RVs.tmp rfl RVs.nil), List.nil_sublist _, ?_⟩
      refine ⟨congrArg Value.bool ?_, rfl⟩
      rw [optsMay_F, hr]
      rw [drop_at dO h0 hc1]
      generalize os.getD i.toNat dO = o at *
      rw [mayF, if_pos]; rfl
      grind [optOk, seenM]
    try simp only [Bool.cond_true_left, Bool.cond_false_right, Bool.or_eq_true, Bool.or_eq_false_iff, Bool.and_eq_true, Bool.and_eq_false_iff, decide_eq_true_eq, decide_eq_false_iff_not, Bool.not_eq_true', Bool.not_eq_false'] at hc2
    refine CW.skip (Q.tn ?_)
    refine CW.region ?_
    refine W.p O.mv ?_
    first | refine W.p O.fb ?_ | refine W.p O.fa ?_
    refine W.p O.ld ?_
    refine W.mu (ek := kI) (ev := vB) (vt rfl) (vt rfl) (vt rfl) ?_
    refine WL.nil (Q.bn (Q.tn ?_))
    refine CW.region ?_
    first | refine W.p O.addN ?_ | refine W.p O.add ?_
    refine W.p O.mv ?_
    refine WL.nil (Q.tn ?_)
    refine ⟨(_, mput m _ true), ?_, ?_, (by repeat (first | exact trivial | refine ⟨rfl, ?_⟩ | refine ⟨by (simp only [List.length_set]; rfl), ?_⟩)), (by repeat (first | exact List.Sublist.refl _ | exact List.sublist_append_left _ _ | exact List.nil_sublist _ | refine List.Sublist.append (List.Sublist.refl _) ?_ | apply List.Sublist.cons_cons | apply List.Sublist.cons | refine List.Sublist.trans ?_ (List.sublist_append_right _ _)))⟩
    · try dsimp only
      refine ⟨by omega, by omega, ?_⟩
      rw [hr, drop_at dO h0 hc1]
      generalize os.getD i.toNat dO = o at *
      rw [mayF, if_neg, seenM_put]
      grind [optOk, seenM]
    · try dsimp only
      omega
  try simp only [Bool.cond_true_left, Bool.cond_false_right, Bool.or_eq_true, Bool.or_eq_false_iff, Bool.and_eq_true, Bool.and_eq_false_iff, decide_eq_true_eq, decide_eq_false_iff_not, Bool.not_eq_true', Bool.not_eq_false'] at hc1
  refine CW.exit (Q.te (Q.te (Q.bx (Q.tn ?_))))
  refine CW.seq ?_
  refine CW.region ?_
  refine W.p O.mv ?_
  refine W.p O.lenL ?_
  refine W.p O.leq ?_
  refine W.p O.as ?_
  refine WL.nil (Q.tn ?_)
  refine CW.ret ?_
  refine ⟨_, [], (RVs.tmp rfl RVs.nil), List.nil_sublist _, ?_⟩
  refine ⟨congrArg Value.bool ?_, rfl⟩
  rw [optsMay_F, hr]
  rw [drop_end hc1, mayF, Bool.true_and]; exact decide_eq_decide.2 (by omega)
theorem byteOf_code {c : Int} (h : 0 ≤ c) : byteOf c = UInt8.ofNat c.toNat := by
  obtain ⟨k, rfl⟩ := Int.eq_ofNat_of_zero_le h
  exact byteOf_cast k
def chO (o : Opt) : List UInt8 := chunks (UInt8.ofNat o.code.toNat) o.data
def putR (os : List Opt) : List UInt8 × Int := if optsMay os then (if (putOpts os).length ≤ 1200 then (putOpts os, 0) else ([], 601)) else ([], 600)
theorem chunks_len (c : UInt8) : ∀ (n : Nat) (d : List UInt8), d.length ≤ n → (chunks c d).length ≤ 3 * d.length + 2 := by
  intro n
  induction n with
  | zero => intro d h; have : d = [] := List.eq_nil_of_length_eq_zero (by omega)
            subst this; rw [chunks_short (by simp)]; simp
  | succ n ih =>
    intro d h
    by_cases hs : d.length ≤ 255
    · rw [chunks_short hs]; simp; omega
    · rw [chunks_long (by omega)]
      have := ih (d.drop 255) (by simp; omega)
      simp at this ⊢; omega
theorem chunks_step {c : UInt8} {d : List UInt8} : chunks c d = [c] ++ [byteOf (min 255 (d.length : Int))] ++ d.take (min 255 (d.length : Int)).toNat ++ (bif !decide (d.drop (min 255 (d.length : Int)).toNat = []) then chunks c (d.drop (min 255 (d.length : Int)).toNat) else []) := by
  by_cases hs : d.length ≤ 255
  · have e : (min 255 (d.length : Int)) = d.length := by omega
    rw [e, chunks_short hs, byteOf_cast]; simp
  · have e : (min 255 (d.length : Int)) = 255 := by omega
    have h2 : d.drop 255 ≠ [] := fun h => by have := congrArg List.length h; simp at this; omega
    rw [e, chunks_long (by omega)]
    simp only [show (255 : Int).toNat = 255 from rfl, h2, decide_false, Bool.not_false, cond_true]
    rfl
theorem may_at {os : List Opt} (h : optsMay os = true) {i : Int} (h0 : 0 ≤ i) (h1 : i < os.length) : optOk (os.getD i.toNat dO) = true := by
  simp only [optsMay, Bool.and_eq_true] at h
  refine List.all_eq_true.1 h.1.1 _ ?_
  rw [List.getD_eq_getElem?_getD, List.getElem?_eq_getElem (by omega)]
  exact List.getElem_mem _
theorem may_32 {os : List Opt} (h : optsMay os = true) : os.length ≤ 32 := by
  simp only [optsMay, Bool.and_eq_true, decide_eq_true_eq] at h; exact h.2
set_option maxRecDepth 100000 in
theorem opts_Put (os : List Opt) (a : Option Addr) (c : Nat) (w : World) (h : In w a (os.flatMap encO)) (hn : os.length ≤ 140737488355328) : Fn Try.prog 36 [.slice a os.length c] w [] fun v L' => v = .tuple #[.string (S (putR os).1), .int .i64 (putR os).2] ∧ L' = [] := by
  have row := Row.ofE h
  refine Fn.enter Try.func36 rfl rfl rfl rfl (Holds.nil w) ?_
  refine CW.seq ?_
  refine CW.region ?_
  refine W.p O.as ?_
  refine W.p O.as ?_
  refine WL.nil (Q.tn ?_)
  refine CW.seq ?_
  refine CW.seq ?_
  refine CW.region ?_
  refine W.p O.mv ?_
  refine W.q (O.call ⟨rfl, rfl⟩ (AV.cons (vt rfl) (AV.nil)) (fun _ w hw => opts_May os a c w (row.h _ w hw) hn)) ?_
  refine W.p O.nt ?_
  refine WL.nil (Q.tn ?_)
  refine CW.cond (vt rfl) (fun hc1 => ?_) (fun hc1 => ?_)
  · try simp only [Bool.cond_true_left, Bool.cond_false_right, Bool.or_eq_true, Bool.or_eq_false_iff, Bool.and_eq_true, Bool.and_eq_false_iff, decide_eq_true_eq, decide_eq_false_iff_not, Bool.not_eq_true', Bool.not_eq_false'] at hc1
    refine CW.seq ?_
    refine CW.region ?_
    refine W.p O.as ?_
    refine W.p O.as ?_
    refine WL.nil (Q.tn ?_)
    refine CW.ret (Q.tr ?_)
    refine ⟨_, [], (RVs.tmp rfl (RVs.tmp rfl RVs.nil)), List.nil_sublist _, ?_⟩
    refine ⟨?_, rfl⟩
    simp [putR, hc1, oneOr]
  try simp only [Bool.cond_true_left, Bool.cond_false_right, Bool.or_eq_true, Bool.or_eq_false_iff, Bool.and_eq_true, Bool.and_eq_false_iff, decide_eq_true_eq, decide_eq_false_iff_not, Bool.not_eq_true', Bool.not_eq_false'] at hc1
  refine CW.skip (Q.tn ?_)
  refine CW.seq ?_
  refine CW.region ?_
  refine W.al rfl rfl fun b1 => ?_
  refine WL.nil (Q.tn ?_)
  refine CW.seq ?_
  refine CW.seq ?_
  refine CW.region ?_
  refine W.p O.mv ?_
  refine W.p O.lenL ?_
  refine W.p O.mv ?_
  refine WL.nil (Q.tn ?_)
  refine CW.block ?_
  refine CW.loop (X := Int × (List UInt8) × Heap) (fun ⟨i, out, Lb⟩ => [(0, true, .slice a os.length c), (4, true, .pointer (some ⟨b1, 0, none⟩)), (13, true, .slice a os.length c), (14, true, .int .i64 os.length), (15, true, .int .i64 i)]) (fun ⟨i, out, Lb⟩ => Lb) (fun ⟨i, out, Lb⟩ => 0 ≤ i ∧ i ≤ os.length ∧ Bd b1 out Lb ∧ os.flatMap chO = out ++ (os.drop i.toNat).flatMap chO ∧ out.length ≤ 1600 * i) (fun ⟨i, out, Lb⟩ => (os.length - i).toNat) (0, [], [BdO b1 none (.slice none 0 0)]) ?_ (by repeat (first | exact trivial | refine ⟨rfl, ?_⟩ | refine ⟨by (simp only [List.length_set]; rfl), ?_⟩)) (by repeat (first | exact List.Sublist.refl _ | exact List.sublist_append_left _ _ | exact List.nil_sublist _ | refine List.Sublist.append (List.Sublist.refl _) ?_ | apply List.Sublist.cons_cons | apply List.Sublist.cons | refine List.Sublist.trans ?_ (List.sublist_append_right _ _))) ?_
  · exact ⟨by omega, by omega, Bd.new b1, rfl, by simp⟩
  rintro ⟨i, out, Lb⟩ hI
  try dsimp only at hI ⊢
  obtain ⟨h0, h1, hB, hr, hl⟩ := hI
  have h32 := may_32 hc1
  refine CW.seq ?_
  refine CW.region ?_
  refine W.p O.lss ?_
  refine WL.nil (Q.tn ?_)
  refine CW.seq ?_
  refine CW.cond (vt rfl) (fun hc2 => ?_) (fun hc2 => ?_)
  · try simp only [Bool.cond_true_left, Bool.cond_false_right, Bool.or_eq_true, Bool.or_eq_false_iff, Bool.and_eq_true, Bool.and_eq_false_iff, decide_eq_true_eq, decide_eq_false_iff_not, Bool.not_eq_true', Bool.not_eq_false'] at hc2
    refine CW.skip (Q.tn ?_)
    refine CW.seq ?_
    refine CW.block ?_
    refine CW.seq ?_
    refine CW.region ?_
    refine W.p O.ixA ?_
    refine W.p O.ldsE ?_
    refine W.al rfl rfl fun b2 => ?_
    refine W.st (vt rfl) (vt rfl) rfl ?_
    refine WL.nil (Q.tn ?_)
    refine CW.seq ?_
    refine CW.region ?_
    first | refine W.p O.fb ?_ | refine W.p O.fa ?_
    refine W.p O.ld ?_
    refine W.p O.as ?_
    refine W.p O.as ?_
    refine WL.nil (Q.tn ?_)
    refine CW.block ?_
    refine CW.loop (X := (List UInt8) × Bool × (List UInt8) × Heap) (fun ⟨left, more, out2, Lb1⟩ => [(0, true, .slice a os.length c), (4, true, .pointer (some ⟨b1, 0, none⟩)), (6, true, .pointer (some ⟨b2, 0, none⟩)), (7, true, .string (S left)), (8, true, .bool more), (13, true, .slice a os.length c), (14, true, .int .i64 os.length), (15, true, .int .i64 i)]) (fun ⟨left, more, out2, Lb1⟩ => (b2, .cells (encO (os.getD i.toNat dO)).toArray 42 (0, 0)) :: Lb1) (fun ⟨left, more, out2, Lb1⟩ => Bd b1 out2 Lb1 ∧ out ++ chO (os.getD i.toNat dO) = out2 ++ (bif more then chunks (byteOf (os.getD i.toNat dO).code) left else []) ∧ out2.length ≤ 1600 * i + 1600 ∧ left.length ≤ 512) (fun ⟨left, more, out2, Lb1⟩ => left.length + (bif more then 1 else 0)) ((os.getD i.toNat dO).data, true, out, Lb) ?_ (by repeat (first | exact trivial | refine ⟨rfl, ?_⟩ | refine ⟨by (simp only [List.length_set]; rfl), ?_⟩)) (by repeat (first | exact List.Sublist.refl _ | exact List.sublist_append_left _ _ | exact List.nil_sublist _ | refine List.Sublist.append (List.Sublist.refl _) ?_ | apply List.Sublist.cons_cons | apply List.Sublist.cons | refine List.Sublist.trans ?_ (List.sublist_append_right _ _))) ?_
    · have hm := may_at hc1 h0 hc2
      simp only [optOk, Bool.and_eq_true, decide_eq_true_eq] at hm
      exact ⟨hB, by rw [byteOf_code (by omega)]; rfl, by omega, hm.2⟩
    rintro ⟨left, more, out2, Lb1⟩ hI
    try dsimp only at hI ⊢
    obtain ⟨hB, he, hl2, hl3⟩ := hI
    refine CW.seq ?_
    refine CW.seq ?_
    refine CW.region ?_
    refine W.p O.mv ?_
    refine WL.nil (Q.tn ?_)
    refine CW.cond (vt rfl) (fun hc3 => ?_) (fun hc3 => ?_)
    · try simp only [Bool.cond_true_left, Bool.cond_false_right, Bool.or_eq_true, Bool.or_eq_false_iff, Bool.and_eq_true, Bool.and_eq_false_iff, decide_eq_true_eq, decide_eq_false_iff_not, Bool.not_eq_true', Bool.not_eq_false'] at hc3
      refine CW.skip (Q.tn ?_)
      refine CW.seq ?_
      refine CW.block ?_
      refine CW.seq ?_
      refine CW.region ?_
      refine W.p O.mv ?_
      refine W.p O.len ?_
      refine W.p O.min ?_
      refine W.p O.as ?_
      refine WL.nil (Q.tn ?_)
      refine CW.seq ?_
      refine CW.draw 10 rfl (by kernel_rfl) ?_
      first | refine WQ.p O.fb ?_ | refine WQ.p O.fa ?_
      refine WQ.p O.ld ?_
      refine WQ.q (O.call ⟨rfl, rfl⟩ (AV.cons (vt rfl) (AV.cons (vt rfl) (AV.nil))) (fun _ w hw => be_Bytes _ 1 _ (by decide))) ?_
      refine WQ.p O.mv ?_
      refine WQ.q (O.call ⟨rfl, rfl⟩ (AV.cons (vt rfl) (AV.cons (vt rfl) (AV.nil))) (fun _ w hw => be_Bytes _ 1 _ (by decide))) ?_
      refine WQ.p O.addS ?_
      refine WQ.p O.mv ?_
      refine WQ.p O.mv ?_
      refine WQ.p O.slcH ?_
      refine WQ.p O.addS ?_
      refine WQ.nil ?_
      refine W.callS (first := []) (cap := []) _ rfl (vt rfl) (AV.cons (vt rfl) (AV.cons (vt rfl) (AV.nil))) (fun w hu hh => bd_str w hB hh (by simp [beb_one]; omega)) ?_; rintro _ Lb2 hB
      refine WL.nil (Q.tn ?_)
      refine CW.region ?_
      refine W.p O.mv ?_
      refine W.p O.mv ?_
      refine W.p O.slcL ?_
      refine W.p O.as ?_
      refine WL.nil (Q.bn (Q.tn ?_))
      refine CW.region ?_
      refine W.p O.mv ?_
      refine W.p O.neS ?_
      refine W.p O.as ?_
      refine WL.nil (Q.tn ?_)
      refine ⟨(_, _, out2 ++ (beb (os.getD i.toNat dO).code 1 ++ beb (min 255 (left.length : Int)) 1 ++ left.take (min 255 (left.length : Int)).toNat), _), ?_, ?_, (by repeat (first | exact trivial | refine ⟨rfl, ?_⟩ | refine ⟨by (simp only [List.length_set]; rfl), ?_⟩)), (by repeat (first | exact List.Sublist.refl _ | exact List.sublist_append_left _ _ | exact List.nil_sublist _ | refine List.Sublist.append (List.Sublist.refl _) ?_ | apply List.Sublist.cons_cons | apply List.Sublist.cons | refine List.Sublist.trans ?_ (List.sublist_append_right _ _)))⟩
      · try dsimp only
        have e' : out ++ chO (os.getD i.toNat dO) = out2 ++ (beb (os.getD i.toNat dO).code 1 ++ beb (min 255 (left.length : Int)) 1 ++ left.take (min 255 (left.length : Int)).toNat) ++ (bif !decide (left.drop (min 255 (left.length : Int)).toNat = []) then chunks (byteOf (os.getD i.toNat dO).code) (left.drop (min 255 (left.length : Int)).toNat) else []) := by
          rw [he, hc3, cond_true, chunks_step]; simp [beb_one]
        refine ⟨hB, ?_, ?_, ?_⟩
        · rw [e']; congr 1
        · have := congrArg List.length e'; have h4 := chunks_len (UInt8.ofNat (os.getD i.toNat dO).code.toNat) _ (os.getD i.toNat dO).data (Nat.le_refl _); have h5 := may_at hc1 h0 hc2; simp only [optOk, Bool.and_eq_true, decide_eq_true_eq] at h5; simp only [List.length_append, chO] at this h4 ⊢; omega
        · simp; omega
      · try dsimp only
        by_cases hz : left.drop (min 255 (left.length : Int)).toNat = [] <;> simp [hz, hc3] <;> simp at hz <;> omega
    try simp only [Bool.cond_true_left, Bool.cond_false_right, Bool.or_eq_true, Bool.or_eq_false_iff, Bool.and_eq_true, Bool.and_eq_false_iff, decide_eq_true_eq, decide_eq_false_iff_not, Bool.not_eq_true', Bool.not_eq_false'] at hc3
    refine CW.exit (Q.te (Q.te (Q.bx (Q.bn (Q.tn ?_)))))
    refine CW.region ?_
    first | refine W.p O.addN ?_ | refine W.p O.add ?_
    refine W.p O.mv ?_
    refine WL.nil (Q.tn ?_)
    refine ⟨(_, out2, Lb1), ?_, ?_, (by repeat (first | exact trivial | refine ⟨rfl, ?_⟩ | refine ⟨by (simp only [List.length_set]; rfl), ?_⟩)), (by repeat (first | exact List.Sublist.refl _ | exact List.sublist_append_left _ _ | exact List.nil_sublist _ | refine List.Sublist.append (List.Sublist.refl _) ?_ | apply List.Sublist.cons_cons | apply List.Sublist.cons | refine List.Sublist.trans ?_ (List.sublist_append_right _ _)))⟩
    · try dsimp only
      refine ⟨by omega, by omega, hB, ?_, ?_⟩
      · rw [hr, drop_at dO h0 hc2, List.flatMap_cons, ← List.append_assoc, he, hc3]; simp
      · have := congrArg List.length he; rw [hc3] at this; have h4 := chunks_len (UInt8.ofNat (os.getD i.toNat dO).code.toNat) _ (os.getD i.toNat dO).data (Nat.le_refl _); simp [chO] at this h4 ⊢; omega
    · try dsimp only
      omega
  try simp only [Bool.cond_true_left, Bool.cond_false_right, Bool.or_eq_true, Bool.or_eq_false_iff, Bool.and_eq_true, Bool.and_eq_false_iff, decide_eq_true_eq, decide_eq_false_iff_not, Bool.not_eq_true', Bool.not_eq_false'] at hc2
  refine CW.exit (Q.te (Q.te (Q.bx (Q.tn ?_))))
  refine CW.seq ?_
  refine CW.region ?_
  refine W.callS (first := []) (cap := []) _ rfl (vt rfl) (AV.cons (vt rfl) (AV.cons (vt rfl) (AV.nil))) (fun w hu hh => bd_byte (x := 255) w hB hh (by omega)) ?_; rintro _ Lb2 hB
  refine WL.nil (Q.tn ?_)
  refine CW.seq ?_
  refine CW.seq ?_
  refine CW.region ?_
  refine W.callS (first := []) (cap := []) _ rfl (vt rfl) (AV.cons (vt rfl) (AV.nil)) (fun w hu hh => bd_len w hB hh) ?_; rintro _ _ ⟨rfl, rfl⟩
  refine W.p O.gtr ?_
  refine WL.nil (Q.tn ?_)
  refine CW.cond (vt rfl) (fun hc4 => ?_) (fun hc4 => ?_)
  · try simp only [Bool.cond_true_left, Bool.cond_false_right, Bool.or_eq_true, Bool.or_eq_false_iff, Bool.and_eq_true, Bool.and_eq_false_iff, decide_eq_true_eq, decide_eq_false_iff_not, Bool.not_eq_true', Bool.not_eq_false'] at hc4
    refine CW.seq ?_
    refine CW.region ?_
    refine W.p O.as ?_
    refine W.p O.as ?_
    refine WL.nil (Q.tn ?_)
    refine CW.ret (Q.tr ?_)
    refine ⟨_, [], (RVs.tmp rfl (RVs.tmp rfl RVs.nil)), List.nil_sublist _, ?_⟩
    refine ⟨?_, rfl⟩
    have e : putOpts os = out ++ [255] := by show os.flatMap chO ++ [255] = _; rw [hr, drop_end hc2]; simp
    simp only [putR, hc1, if_true, e]; rw [if_neg (by omega)]; rfl
  try simp only [Bool.cond_true_left, Bool.cond_false_right, Bool.or_eq_true, Bool.or_eq_false_iff, Bool.and_eq_true, Bool.and_eq_false_iff, decide_eq_true_eq, decide_eq_false_iff_not, Bool.not_eq_true', Bool.not_eq_false'] at hc4
  refine CW.skip (Q.tn ?_)
  refine CW.seq ?_
  refine CW.region ?_
  refine W.callS (first := []) (cap := []) _ rfl (vt rfl) (AV.cons (vt rfl) (AV.nil)) (fun w hu hh => bd_string w hB hh) ?_; rintro _ _ rfl
  refine W.p O.as ?_
  refine W.p O.as ?_
  refine WL.nil (Q.tn ?_)
  refine CW.ret ?_
  refine ⟨_, [], (RVs.tmp rfl (RVs.tmp rfl RVs.nil)), List.nil_sublist _, ?_⟩
  refine ⟨?_, rfl⟩
  have e : putOpts os = out ++ [255] := by show os.flatMap chO ++ [255] = _; rw [hr, drop_end hc2]; simp
  simp only [putR, hc1, if_true, e]; rw [if_pos (by omega)]; rfl
/-! Join -/
def cidx : List Opt → Int → Option Nat
  | [], _ => none
  | o :: r, k => if o.code = k then some 0 else (cidx r k).map (· + 1)
theorem cidx_app : ∀ (os : List Opt) (o : Opt) (k : Int), cidx (os ++ [o]) k = match cidx os k with | some j => some j | none => if o.code = k then some os.length else none
  | [], o, k => by simp [cidx]
  | p :: r, o, k => by
    simp only [List.cons_append, cidx, cidx_app r o k]
    by_cases h : p.code = k
    · simp [h]
    · simp only [h, if_false]
      cases cidx r k with
      | some j => rfl
      | none => by_cases h2 : o.code = k <;> simp [h2]
theorem cidx_any : ∀ (os : List Opt) (k : Int), (cidx os k).isSome = os.any fun p => decide (p.code = k)
  | [], _ => rfl
  | p :: r, k => by
    simp only [cidx, List.any_cons, ← cidx_any r k]
    by_cases h : p.code = k <;> simp [h]
theorem cidx_lt : ∀ {os : List Opt} {k : Int} {j : Nat}, cidx os k = some j → j < os.length
  | [], _, _, h => by simp [cidx] at h
  | p :: r, k, j, h => by
    simp only [cidx] at h
    split at h
    · simp at h; subst h; simp
    · cases hr : cidx r k with
      | none => simp [hr] at h
      | some q => simp [hr] at h; subst h; have := cidx_lt hr; simp; omega
theorem join1_some : ∀ {os : List Opt} {o : Opt} {j : Nat}, cidx os o.code = some j → join1 os o = os.set j ⟨(os.getD j dO).code, (os.getD j dO).data ++ o.data⟩
  | [], _, _, h => by simp [cidx] at h
  | p :: r, o, j, h => by
    simp only [cidx] at h
    simp only [join1]
    by_cases h2 : p.code = o.code
    · rw [if_pos h2] at h ⊢; simp at h; subst h; simp
    · rw [if_neg h2] at h ⊢
      cases hr : cidx r o.code with
      | none => simp [hr] at h
      | some q => simp [hr] at h; subst h; rw [join1_some hr]; simp
theorem join1_none {os : List Opt} {o : Opt} (h : cidx os o.code = none) : join1 os o = os ++ [o] := join1_fresh os o (by rw [← cidx_any, h]; rfl)
theorem cidx_set : ∀ (os : List Opt) (j : Nat) (d : List UInt8) (k : Int), cidx (os.set j ⟨(os.getD j dO).code, d⟩) k = cidx os k
  | [], _, _, _ => by simp [cidx]
  | p :: r, 0, d, k => by simp [cidx]
  | p :: r, j + 1, d, k => by
    have := cidx_set r j d k
    simp only [List.getD_cons_succ, List.set_cons_succ, cidx, this]
theorem nodupC_take : ∀ {os : List Opt} (i : Nat), nodupC os = true → i < os.length → cidx (os.take i) (os.getD i dO).code = none
  | [], _, _, h => by simp at h
  | p :: r, 0, _, _ => rfl
  | p :: r, i + 1, h, hi => by
    simp only [nodupC, Bool.and_eq_true, Bool.not_eq_true'] at h
    have ih := nodupC_take i h.2 (by simpa using hi)
    have h3 : i < r.length := by simpa using hi
    simp only [List.take_succ_cons, List.getD_cons_succ, cidx, ih]
    have : ¬ p.code = (r.getD i dO).code := fun e => by
      have := List.any_eq_false.1 h.1 (r.getD i dO) (by rw [List.getD_eq_getElem?_getD, List.getElem?_eq_getElem h3]; exact List.getElem_mem _)
      simp [e] at this
    rw [if_neg this]; rfl
def atM (m : List (Int × Int)) (os : List Opt) : Prop := ∀ k, mget m k = (cidx os k).map fun j => (j : Int)
theorem take_at {os : List Opt} {i : Int} (h0 : 0 ≤ i) (h1 : i < os.length) : os.take (i + 1).toNat = os.take i.toNat ++ [os.getD i.toNat dO] := by
  have h : i.toNat < os.length := by omega
  rw [show (i + 1).toNat = i.toNat + 1 by omega, List.take_succ_eq_append_getElem h, List.getD_eq_getElem?_getD, List.getElem?_eq_getElem h]; rfl
theorem atM_take {m : List (Int × Int)} {os : List Opt} {i : Int} (hn : nodupC os = true) (h0 : 0 ≤ i) (h1 : i < os.length) (h : atM m (os.take i.toNat)) : atM (mput m (os.getD i.toNat dO).code i) (os.take (i + 1).toNat) := by
  intro k
  rw [mget_mput, take_at h0 h1, cidx_app, h k]
  have hf := nodupC_take i.toNat hn (by omega)
  by_cases e : k = (os.getD i.toNat dO).code
  · subst e; rw [hf, if_pos rfl]; simp; omega
  · rw [if_neg e]
    cases cidx (os.take i.toNat) k with
    | some j => rfl
    | none => simp only; rw [if_neg (Ne.symm e)]
theorem joinAll_at {out behind : List Opt} {i : Int} (h0 : 0 ≤ i) (h1 : i < behind.length) : joinAll out (behind.drop i.toNat) = joinAll (join1 out (behind.getD i.toNat dO)) (behind.drop (i + 1).toNat) := by
  rw [drop_at dO h0 h1]; rfl
theorem join1_len (os : List Opt) (o : Opt) : (join1 os o).length ≤ os.length + 1 := by
  cases h : cidx os o.code with
  | some j => rw [join1_some h]; simp
  | none => rw [join1_none h]; simp
def dsum (os : List Opt) : Nat := (os.map fun o => o.data.length).sum
theorem dsum_mem : ∀ {os : List Opt} {o : Opt}, o ∈ os → o.data.length ≤ dsum os
  | p :: r, o, h => by
    simp only [dsum, List.map_cons, List.sum_cons]
    rcases List.mem_cons.1 h with rfl | h
    · omega
    · have := dsum_mem h; simp only [dsum] at this; omega
theorem dsum_app (a b : List Opt) : dsum (a ++ b) = dsum a + dsum b := by simp [dsum]
theorem dsum_join1 : ∀ (os : List Opt) (o : Opt), dsum (join1 os o) = dsum os + o.data.length
  | [], o => by simp [join1, dsum]
  | p :: r, o => by
    simp only [join1]
    split
    · simp [dsum]; omega
    · have := dsum_join1 r o
      simp [dsum] at this ⊢; omega
theorem dsum_getD (os : List Opt) (j : Nat) : (os.getD j dO).data.length ≤ dsum os := by
  by_cases h : j < os.length
  · refine dsum_mem ?_
    rw [List.getD_eq_getElem?_getD, List.getElem?_eq_getElem h]; exact List.getElem_mem _
  · rw [List.getD_eq_getElem?_getD, List.getElem?_eq_none (by omega)]; simp
theorem dsum_take (os : List Opt) (i : Nat) : dsum (os.take i) ≤ dsum os := by
  have := dsum_app (os.take i) (os.drop i)
  rw [List.take_append_drop] at this; omega
theorem atM_set {m : List (Int × Int)} {out : List Opt} {o : Opt} {j : Nat} (h : atM m out) (hj : cidx out o.code = some j) : atM m (join1 out o) := by
  intro k; rw [h k, join1_some hj, cidx_set]
theorem atM_put {m : List (Int × Int)} {out : List Opt} {o : Opt} (h : atM m out) (hj : cidx out o.code = none) : atM (mput m o.code out.length) (join1 out o) := by
  intro k
  rw [mget_mput, join1_none hj, cidx_app, h k]
  by_cases e : k = o.code
  · subst e; rw [hj]; simp
  · rw [if_neg e]
    cases cidx out k with
    | some j => rfl
    | none => simp [Ne.symm e]
set_option maxRecDepth 100000 in
theorem opts_Join (os bs : List Opt) (a b : Option Addr) (c c' : Nat) (w : World) (h : In w a (os.flatMap encO)) (h' : In w b (bs.flatMap encO)) (hn : os.length ≤ 1000000000) (hn' : bs.length ≤ 1000000000) (hs : dsum os + dsum bs ≤ 140737488355328) (hd : nodupC os = true) :
    Fn Try.prog 99 [.slice a os.length c, .slice b bs.length c'] w [] (Fresh encO 42 2 (joinAll os bs)) := by
  have row := Row.ofE h
  have row' := Row.ofE h'
  refine Fn.enter Try.func99 rfl rfl rfl rfl (Holds.nil w) ?_
  refine CW.seq ?_
  refine CW.region ?_
  refine W.p O.as ?_
  refine WL.nil (Q.tn ?_)
  refine CW.seq ?_
  refine CW.region ?_
  refine W.mm kI kI rfl fun b1 => ?_
  refine W.p O.as ?_
  refine WL.nil (Q.tn ?_)
  refine CW.seq ?_
  refine CW.region ?_
  refine W.p O.mv ?_
  refine W.apN rfl (vt rfl) (vt rfl) (by first | rfl | omega) rfl (by first | omega | (simp; omega)) fun o1 c1 sp1 ok1 ne1 gt1 => ?_
  have nk1 := ok1.nk; have le1 := ok1.2.2.1; try simp only [List.length_append, List.length_cons, List.length_nil] at le1
  refine W.p O.as ?_
  refine WL.nil (Q.tn ?_)
  refine CW.seq ?_
  refine CW.seq ?_
  refine CW.region ?_
  refine W.p O.mv ?_
  refine W.p O.lenL ?_
  refine W.p O.mv ?_
  refine WL.nil (Q.tn ?_)
  refine CW.block ?_
  refine CW.loop (X := Int × (List (Int × Int))) (fun ⟨i, m⟩ => [(0, true, .slice a os.length c), (1, true, .slice b bs.length c'), (5, true, .map (some b1)), (6, true, .slice (oa o1) os.length c1), (16, true, .slice (oa o1) os.length c1), (17, true, .int .i64 os.length), (18, true, .int .i64 i)]) (fun ⟨i, m⟩ => rowL o1 42 (flat encO os sp1) ++ [(b1, mObj kI kI m)]) (fun ⟨i, m⟩ => 0 ≤ i ∧ i ≤ os.length ∧ atM m (os.take i.toNat)) (fun ⟨i, m⟩ => (os.length - i).toNat) (0, []) ?_ (by repeat (first | exact trivial | refine ⟨rfl, ?_⟩ | refine ⟨by (simp only [List.length_set]; rfl), ?_⟩)) (by repeat (first | exact List.Sublist.refl _ | exact List.sublist_append_left _ _ | exact List.nil_sublist _ | refine List.Sublist.append (List.Sublist.refl _) ?_ | apply List.Sublist.cons_cons | apply List.Sublist.cons | refine List.Sublist.trans ?_ (List.sublist_append_right _ _))) ?_
  · exact ⟨by omega, by omega, fun k => rfl⟩
  rintro ⟨i, m⟩ hI
  try dsimp only at hI ⊢
  obtain ⟨h0, h1, hm⟩ := hI
  refine CW.seq ?_
  refine CW.region ?_
  refine W.p O.lss ?_
  refine WL.nil (Q.tn ?_)
  refine CW.seq ?_
  refine CW.cond (vt rfl) (fun hc1 => ?_) (fun hc1 => ?_)
  · try simp only [Bool.cond_true_left, Bool.cond_false_right, Bool.or_eq_true, Bool.or_eq_false_iff, Bool.and_eq_true, Bool.and_eq_false_iff, decide_eq_true_eq, decide_eq_false_iff_not, Bool.not_eq_true', Bool.not_eq_false'] at hc1
    refine CW.skip (Q.tn ?_)
    refine CW.seq ?_
    refine CW.block ?_
    refine CW.seq ?_
    refine CW.region ?_
    refine W.p O.mv ?_
    refine W.p O.ixA ?_
    refine W.p O.ldsE ?_
    refine W.al rfl rfl fun b2 => ?_
    refine W.p O.as ?_
    refine W.st (vt rfl) (vt rfl) rfl ?_
    refine WL.nil (Q.tn ?_)
    refine CW.region ?_
    refine W.p O.mv ?_
    first | refine W.p O.fb ?_ | refine W.p O.fa ?_
    refine W.p O.ld ?_
    refine W.p O.mv ?_
    refine W.mu (ek := kI) (ev := kI) (vt rfl) (vt rfl) (vt rfl) ?_
    refine WL.nil (Q.bn (Q.tn ?_))
    refine CW.region ?_
    first | refine W.p O.addN ?_ | refine W.p O.add ?_
    refine W.p O.mv ?_
    refine WL.nil (Q.tn ?_)
    refine ⟨(_, mput m (os.getD i.toNat dO).code i), ?_, ?_, (by repeat (first | exact trivial | refine ⟨rfl, ?_⟩ | refine ⟨by (simp only [List.length_set]; rfl), ?_⟩)), (by repeat (first | exact List.Sublist.refl _ | exact List.sublist_append_left _ _ | exact List.nil_sublist _ | refine List.Sublist.append (List.Sublist.refl _) ?_ | apply List.Sublist.cons_cons | apply List.Sublist.cons | refine List.Sublist.trans ?_ (List.sublist_append_right _ _)))⟩
    · try dsimp only
      exact ⟨by omega, by omega, atM_take hd h0 hc1 hm⟩
    · try dsimp only
      omega
  try simp only [Bool.cond_true_left, Bool.cond_false_right, Bool.or_eq_true, Bool.or_eq_false_iff, Bool.and_eq_true, Bool.and_eq_false_iff, decide_eq_true_eq, decide_eq_false_iff_not, Bool.not_eq_true', Bool.not_eq_false'] at hc1
  refine CW.exit (Q.te (Q.te (Q.bx (Q.tn ?_))))
  refine CW.seq ?_
  refine CW.seq ?_
  refine CW.region ?_
  refine W.p O.mv ?_
  refine W.p O.lenL ?_
  refine W.p O.mv ?_
  refine WL.nil (Q.tn ?_)
  refine CW.block ?_
  refine CW.loop (X := Int × (List (Int × Int)) × (List Opt) × (Option Nat) × Nat × (List Value)) (fun ⟨i, m, out, o, cc, sp⟩ => [(1, true, .slice b bs.length c'), (5, true, .map (some b1)), (6, true, .slice (oa o) out.length cc), (28, true, .slice b bs.length c'), (29, true, .int .i64 bs.length), (30, true, .int .i64 i)]) (fun ⟨i, m, out, o, cc, sp⟩ => rowL o 42 (flat encO out sp) ++ [(b1, mObj kI kI m)]) (fun ⟨i, m, out, o, cc, sp⟩ => 0 ≤ i ∧ i ≤ bs.length ∧ atM m out ∧ joinAll os bs = joinAll out (bs.drop i.toNat) ∧ OwnOk o cc 2 out.length sp.length ∧ out.length ≤ os.length + i ∧ dsum out = dsum os + dsum (bs.take i.toNat)) (fun ⟨i, m, out, o, cc, sp⟩ => (bs.length - i).toNat) (0, m, os, o1, c1, sp1) ?_ (by repeat (first | exact trivial | refine ⟨rfl, ?_⟩ | refine ⟨by (simp only [List.length_set]; rfl), ?_⟩)) (by repeat (first | exact List.Sublist.refl _ | exact List.sublist_append_left _ _ | exact List.nil_sublist _ | refine List.Sublist.append (List.Sublist.refl _) ?_ | apply List.Sublist.cons_cons | apply List.Sublist.cons | refine List.Sublist.trans ?_ (List.sublist_append_right _ _))) ?_
  · exact ⟨by omega, by omega, by rw [List.take_of_length_le (by omega)] at hm; exact hm, rfl, ok1, by omega, by simp [dsum]⟩
  rintro ⟨i, m, out, o, cc, sp⟩ hI
  try dsimp only at hI ⊢
  obtain ⟨h0', h1', hm', hj, ok, hl, hds⟩ := hI
  have nk := ok.nk
  have hdt := dsum_take bs (i + 1).toNat
  refine CW.seq ?_
  refine CW.region ?_
  refine W.p O.lss ?_
  refine WL.nil (Q.tn ?_)
  refine CW.seq ?_
  refine CW.cond (vt rfl) (fun hc2 => ?_) (fun hc2 => ?_)
  · try simp only [Bool.cond_true_left, Bool.cond_false_right, Bool.or_eq_true, Bool.or_eq_false_iff, Bool.and_eq_true, Bool.and_eq_false_iff, decide_eq_true_eq, decide_eq_false_iff_not, Bool.not_eq_true', Bool.not_eq_false'] at hc2
    refine CW.skip (Q.tn ?_)
    refine CW.seq ?_
    refine CW.block ?_
    refine CW.seq ?_
    refine CW.region ?_
    refine W.p O.ixA ?_
    refine W.p O.ldsE ?_
    refine W.al rfl rfl fun b3 => ?_
    refine W.st (vt rfl) (vt rfl) rfl ?_
    refine WL.nil (Q.tn ?_)
    refine CW.seq ?_
    refine CW.seq ?_
    refine CW.region ?_
    refine W.p O.mv ?_
    first | refine W.p O.fb ?_ | refine W.p O.fa ?_
    refine W.p O.ld ?_
    refine W.p (O.lkT (ek := kI) (ev := kI) 0) ?_
    refine W.p O.mv ?_
    first | refine W.p O.extL ?_ | refine W.p O.ext ?_
    first | refine W.p O.extL ?_ | refine W.p O.ext ?_
    refine W.p O.as ?_
    refine W.p O.as ?_
    refine WL.nil (Q.tn ?_)
    refine CW.seq ?_
    refine CW.region ?_
    refine W.p O.mv ?_
    refine WL.nil (Q.tn ?_)
    refine CW.cond (vt rfl) (fun hc3 => ?_) (fun hc3 => ?_)
    · try simp only [Bool.cond_true_left, Bool.cond_false_right, Bool.or_eq_true, Bool.or_eq_false_iff, Bool.and_eq_true, Bool.and_eq_false_iff, decide_eq_true_eq, decide_eq_false_iff_not, Bool.not_eq_true', Bool.not_eq_false'] at hc3
      obtain ⟨hj1, hv0⟩ : cidx out (bs.getD i.toNat dO).code = some ((mget m (bs.getD i.toNat dO).code).getD 0).toNat ∧ 0 ≤ (mget m (bs.getD i.toNat dO).code).getD 0 := by
        have := hm' (bs.getD i.toNat dO).code; cases hq : cidx out (bs.getD i.toNat dO).code with | none => (rw [hq] at this; rw [this] at hc3; cases hc3) | some j => (rw [hq] at this; rw [this]; exact ⟨rfl, Int.natCast_nonneg j⟩)
      generalize (mget m (bs.getD i.toNat dO).code).getD 0 = v at *
      have hjl := cidx_lt hj1
      obtain ⟨bo, rfl⟩ : ∃ bo, o = some bo := by cases o with | none => (have := (ok.1 rfl).1; omega) | some b => exact ⟨b, rfl⟩
      have hdt2 := dsum_take bs i.toNat
      have hd1 := dsum_getD out v.toNat; have hd2 := dsum_getD bs i.toNat
      refine CW.seq ?_
      refine CW.draw 10 rfl (by kernel_rfl) ?_
      refine WQ.p O.mv ?_
      refine WQ.p O.mv ?_
      refine WQ.p O.ixA ?_
      first | refine WQ.p O.fe ?_ | refine WQ.p O.feR ?_
      refine WQ.p O.ldE ?_
      first | refine WQ.p O.fb ?_ | refine WQ.p O.fa ?_
      refine WQ.p O.ld ?_
      refine WQ.p O.addS ?_
      refine WQ.p O.ixA ?_
      first | refine WQ.p O.fe ?_ | refine WQ.p O.feR ?_
      refine WQ.nil ?_
      refine W.stE ⟨(out.getD v.toNat dO).code, (out.getD v.toNat dO).data ++ (bs.getD i.toNat dO).data⟩ (vt rfl) (vt rfl) rfl (by first | omega | (simp only [decide_eq_true_eq, decide_eq_false_iff_not] at *; omega)) (by decide) (by rfl) ?_
      refine WL.nil (Q.tn ?_)
      refine CW.exit (Q.te (Q.bx (Q.tn ?_)))
      refine CW.region ?_
      first | refine W.p O.addN ?_ | refine W.p O.add ?_
      refine W.p O.mv ?_
      refine WL.nil (Q.tn ?_)
      refine ⟨(_, m, out.set v.toNat ⟨(out.getD v.toNat dO).code, (out.getD v.toNat dO).data ++ (bs.getD i.toNat dO).data⟩, some bo, cc, sp), ?_, ?_, (by repeat (first | exact trivial | refine ⟨rfl, ?_⟩ | refine ⟨by (simp only [List.length_set]; rfl), ?_⟩)), (by repeat (first | exact List.Sublist.refl _ | exact List.sublist_append_left _ _ | exact List.nil_sublist _ | refine List.Sublist.append (List.Sublist.refl _) ?_ | apply List.Sublist.cons_cons | apply List.Sublist.cons | refine List.Sublist.trans ?_ (List.sublist_append_right _ _)))⟩
      · try dsimp only
        have ej := join1_some hj1
        refine ⟨by omega, by omega, ?_, ?_, ?_, ?_, ?_⟩
        · have := atM_set hm' hj1; rwa [ej] at this
        · rw [hj, joinAll_at h0' hc2, ej]
        · simpa using ok
        · simp; omega
        · have := dsum_join1 out (bs.getD i.toNat dO); rw [ej] at this; rw [this, hds, take_at h0' hc2, dsum_app]; simp [dsum]; omega
      · try dsimp only
        omega
    try simp only [Bool.cond_true_left, Bool.cond_false_right, Bool.or_eq_true, Bool.or_eq_false_iff, Bool.and_eq_true, Bool.and_eq_false_iff, decide_eq_true_eq, decide_eq_false_iff_not, Bool.not_eq_true', Bool.not_eq_false'] at hc3
    refine CW.skip (Q.tn ?_)
    refine CW.seq ?_
    refine CW.region ?_
    refine W.p O.mv ?_
    first | refine W.p O.fb ?_ | refine W.p O.fa ?_
    refine W.p O.ld ?_
    refine W.p O.mv ?_
    refine W.p O.lenL ?_
    refine W.mu (ek := kI) (ev := kI) (vt rfl) (vt rfl) (vt rfl) ?_
    refine WL.nil (Q.tn ?_)
    refine CW.region ?_
    refine W.p O.mv ?_
    refine W.p O.lds ?_
    refine W.bs encO [bs.getD i.toNat dO] rfl (PV.cons (vt rfl) (PV.nil)) rfl rfl rfl (by decide) rfl fun b4 => ?_
    refine W.ap rfl (vt rfl) (vt rfl) (by first | rfl | omega) (by first | rfl | omega) rfl (by first | assumption | exact OwnOk.nil | exact OwnOk.lit) (by first | omega | (simp; omega)) fun o2 c2 sp2 ok2 ne2 gt2 => ?_
    have nk2 := ok2.nk; have le2 := ok2.2.2.1; try simp only [List.length_append, List.length_cons, List.length_nil] at le2
    refine W.p O.as ?_
    refine WL.nil (Q.bn (Q.tn ?_))
    refine CW.region ?_
    first | refine W.p O.addN ?_ | refine W.p O.add ?_
    refine W.p O.mv ?_
    refine WL.nil (Q.tn ?_)
    refine ⟨(_, mput m (bs.getD i.toNat dO).code out.length, out ++ [bs.getD i.toNat dO], _, _, _), ?_, ?_, (by repeat (first | exact trivial | refine ⟨rfl, ?_⟩ | refine ⟨by (simp only [List.length_set]; rfl), ?_⟩)), (by repeat (first | exact List.Sublist.refl _ | exact List.sublist_append_left _ _ | exact List.nil_sublist _ | refine List.Sublist.append (List.Sublist.refl _) ?_ | apply List.Sublist.cons_cons | apply List.Sublist.cons | refine List.Sublist.trans ?_ (List.sublist_append_right _ _)))⟩
    · try dsimp only
      have hj1 : cidx out (bs.getD i.toNat dO).code = none := by
        have := hm' (bs.getD i.toNat dO).code; cases hq : cidx out (bs.getD i.toNat dO).code with | none => rfl | some j => (rw [hq] at this; rw [this] at hc3; cases hc3)
      have ej := join1_none hj1
      refine ⟨by omega, by omega, ?_, ?_, by assumption, ?_, ?_⟩
      · have := atM_put hm' hj1; rwa [ej] at this
      · rw [hj, joinAll_at h0' hc2, ej]
      · simp; omega
      · have := dsum_join1 out (bs.getD i.toNat dO); rw [ej] at this; rw [this, hds, take_at h0' hc2, dsum_app]; simp [dsum]; omega
    · try dsimp only
      omega
  try simp only [Bool.cond_true_left, Bool.cond_false_right, Bool.or_eq_true, Bool.or_eq_false_iff, Bool.and_eq_true, Bool.and_eq_false_iff, decide_eq_true_eq, decide_eq_false_iff_not, Bool.not_eq_true', Bool.not_eq_false'] at hc2
  refine CW.exit (Q.te (Q.te (Q.bx (Q.tn ?_))))
  refine CW.seq ?_
  refine CW.region ?_
  refine W.p O.mv ?_
  refine W.p O.as ?_
  refine WL.nil (Q.tn ?_)
  refine CW.ret ?_
  refine ⟨_, rowL o 42 (flat encO out sp), (RVs.tmp rfl RVs.nil), (by repeat (first | exact List.Sublist.refl _ | exact hSub _ | exact List.sublist_append_left _ _ | exact List.nil_sublist _ | refine List.Sublist.append (List.Sublist.refl _) ?_ | apply List.Sublist.cons_cons | apply List.Sublist.cons | exact List.sublist_append_left _ _ | refine List.Sublist.trans ?_ (List.sublist_append_right _ _))), ?_⟩
  refine ⟨o, cc, sp, ?_, ?_, ?_⟩
  · rw [hj, drop_end hc2]; rfl
  · rw [hj, drop_end hc2]; exact ok
  · rw [hj, drop_end hc2]; rfl
end Go.Proofs.Ytkjcmdgideddnaa
