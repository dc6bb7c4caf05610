/- What packet.Put comes to. Conditions: the row of options is not longer than some 2^47. -/
import Derived.Test.YtkjcmdgideddnaaPk
import Derived.Test.YtkjcmdgideddnaaRep
set_option linter.unusedVariables false
set_option linter.unusedSimpArgs false
namespace Go.Proofs.Ytkjcmdgideddnaa
open Go Go.RowKit
theorem be_BytesI (v k : Int) (w : World) (hk : 0 ≤ k ∧ k ≤ 8) : Fn Try.prog 92 [.int .i64 v, .int .i64 k] w [] fun r L' => r = .string (S (beb v k.toNat)) ∧ L' = [] := by
  have := be_Bytes v k.toNat w (by omega)
  rwa [Int.toNat_of_nonneg hk.1] at this
theorem st_RepI (c : UInt8) (k : Int) (w : World) (hk : 0 ≤ k ∧ k ≤ 1000000000) : Fn Try.prog 114 [.string (S [c]), .int .i64 k] w [] fun v L' => v = .string (S (List.replicate k.toNat c)) ∧ L' = [] := by
  have := st_Rep c k.toNat w (by omega)
  rwa [Int.toNat_of_nonneg hk.1] at this
/-- the head of a packet's bytes, up to a number -/
def hdP (p : Pkt) (long : Int) (i : Nat) : List UInt8 := (List.range i).flatMap fun j => beb ((FV p long).getD j 0) (PFK.getD j 0).toNat
theorem hdP_up (p : Pkt) (long : Int) {i : Int} (h0 : 0 ≤ i) : hdP p long (i + 1).toNat = hdP p long i.toNat ++ beb ((FV p long).getD i.toNat 0) (PFK.getD i.toNat 0).toNat := by
  rw [hdP, show (i + 1).toNat = i.toNat + 1 by omega, List.range_succ, List.flatMap_append]; simp [hdP]
theorem fields_at (b l : Nat) {i : Int} (h0 : 0 ≤ i) (h1 : i < 11) : ((fieldsL b l).getD i.toNat dF).2 = PFK.getD i.toNat 0 ∧ 0 ≤ PFK.getD i.toNat 0 ∧ PFK.getD i.toNat 0 ≤ 8 := by
  rcases (by omega : i = 0 ∨ i = 1 ∨ i = 2 ∨ i = 3 ∨ i = 4 ∨ i = 5 ∨ i = 6 ∨ i = 7 ∨ i = 8 ∨ i = 9 ∨ i = 10) with rfl | rfl | rfl | rfl | rfl | rfl | rfl | rfl | rfl | rfl | rfl <;> exact ⟨rfl, by decide, by decide⟩
def cookieB : List UInt8 := beb 1669485411 4
def pkBytes (p : Pkt) : List UInt8 := hdP p p.chaddr.length 11 ++ p.chaddr ++ List.replicate (208 - p.chaddr.length) 0 ++ (cookieB ++ (putR p.opts).1)
def pkPut (p : Pkt) : List UInt8 × Int := if (putR p.opts).2 ≠ 0 ∨ pkMay p = false then ([], 700) else (pkBytes p, 0)
theorem hdP_len (p : Pkt) (long : Int) : (hdP p long 11).length = 28 := by
  simp [hdP, List.range_succ]
theorem putR_len1 (os : List Opt) : (putR os).1.length ≤ 1200 := by
  unfold putR; split
  · split
    · assumption
    · simp
  · simp
set_option maxRecDepth 100000 in
theorem pk_Put (p : Pkt) (a : Option Addr) (c : Nat) (w : World) (h : In w a (p.opts.flatMap encO)) (hn : p.opts.length ≤ 140737488355328) : Fn Try.prog 57 [vPk p a c] w [] fun v L' => v = .tuple #[.string (S (pkPut p).1), .int .i64 (pkPut p).2] ∧ L' = [] := by
  have row := Row.ofE h
  have hpl := putR_len1 p.opts
  have hcl : (beb 1669485411 4).length = 4 := rfl
  refine Fn.enter Try.func57 rfl rfl rfl rfl (Holds.nil w) ?_
  refine CW.seq ?_
  refine CW.region ?_
  refine W.bx rfl (vt rfl) rfl fun b1 => ?_
  refine W.p O.as ?_
  refine W.p O.as ?_
  refine WL.nil (Q.tn ?_)
  refine CW.seq ?_
  refine CW.region ?_
  first | refine W.p O.fb ?_ | refine W.p O.fa ?_
  first | refine W.p O.ld ?_ | refine W.p O.ldC ?_
  refine W.q (O.call ⟨rfl, rfl⟩ (AV.cons (vt rfl) (AV.nil)) (fun _ w hw => opts_Put p.opts a c w (row.h _ w hw) hn)) ?_
  refine W.p O.mv ?_
  first | refine W.p O.extL ?_ | refine W.p O.ext ?_
  first | refine W.p O.extL ?_ | refine W.p O.ext ?_
  refine W.p O.as ?_
  refine W.p O.as ?_
  refine WL.nil (Q.tn ?_)
  refine CW.seq ?_
  refine CW.seq ?_
  refine CW.region ?_
  refine W.p O.mv ?_
  refine W.p O.neI ?_
  refine W.p O.mv ?_
  refine W.p O.lds ?_
  refine W.q (O.call ⟨rfl, rfl⟩ (AV.cons (vs rfl) (AV.nil)) (fun _ w hw => pk_May p a c w (row.h _ w hw) hn)) ?_
  refine W.p O.nt ?_
  refine W.p O.pkB ?_
  refine WL.nil (Q.tn ?_)
  refine CW.cond (vt rfl) (fun hc1 => ?_) (fun hc1 => ?_)
  · try simp only [Bool.cond_true_left, Bool.cond_false_right, Bool.or_eq_true, Bool.or_eq_false_iff, Bool.and_eq_true, Bool.and_eq_false_iff, decide_eq_true_eq, decide_eq_false_iff_not, Bool.not_eq_true', Bool.not_eq_false'] at hc1
    refine CW.seq ?_
    refine CW.region ?_
    refine W.p O.as ?_
    refine W.p O.as ?_
    refine WL.nil (Q.tn ?_)
    refine CW.ret (Q.tr ?_)
    refine ⟨_, [], (RVs.tmp rfl (RVs.tmp rfl RVs.nil)), List.nil_sublist _, ?_⟩
    rw [pkPut, if_pos hc1]; exact ⟨rfl, rfl⟩
  try simp only [Bool.cond_true_left, Bool.cond_false_right, Bool.or_eq_true, Bool.or_eq_false_iff, Bool.and_eq_true, Bool.and_eq_false_iff, decide_eq_true_eq, decide_eq_false_iff_not, Bool.not_eq_true', Bool.not_eq_false'] at hc1
  have hch : p.chaddr.length ≤ 16 := by have h := hc1.2; simp only [pkMay, Bool.and_eq_true, decide_eq_true_eq] at h; exact h.1.1
  refine CW.skip (Q.tn ?_)
  refine CW.seq ?_
  refine CW.region ?_
  refine W.al rfl rfl fun b2 => ?_
  refine WL.nil (Q.tn ?_)
  refine CW.seq ?_
  refine CW.region ?_
  first | refine W.p O.fb ?_ | refine W.p O.fa ?_
  first | refine W.p O.ld ?_ | refine W.p O.ldC ?_
  refine W.p O.len ?_
  refine W.al rfl rfl fun b3 => ?_
  first | refine W.st (vt rfl) (vt rfl) rfl ?_ | refine W.st (u := .int _ _) (vt rfl) (vt rfl) rfl ?_
  refine WL.nil (Q.tn ?_)
  refine CW.seq ?_
  refine CW.seq ?_
  refine CW.region ?_
  refine W.callN (first := []) (cap := []) rfl (vt rfl) (AV.cons (vt rfl) (AV.cons (vt rfl) (AV.nil))) (fun w hu => pk_fields _ _ w) ?_; rintro _ _ ⟨o11, c11, sp11, rfl, ok11, rfl⟩; have nk11 := ok11.nk
  refine W.p O.lenL ?_
  refine W.p O.mv ?_
  refine WL.nil (Q.tn ?_)
  refine CW.block ?_
  refine CW.loop (X := Int × (List UInt8) × Heap) (fun ⟨i, l, Lb⟩ => [(1, true, .pointer (some ⟨b1, 0, none⟩)), (4, true, .string (S (putR p.opts).1)), (6, true, .pointer (some ⟨b2, 0, none⟩)), (26, true, .slice (oa o11) 11 c11), (27, true, .int .i64 11), (28, true, .int .i64 i)]) (fun ⟨i, l, Lb⟩ => rowL o11 168 (flat encF (fieldsL b1 b3) sp11) ++ ((b3, .cells [.int .i64 p.chaddr.length].toArray 3 (0, 0)) :: (Lb ++ [(b1, .cells (encPk p a c).toArray 72 (0, 0))]))) (fun ⟨i, l, Lb⟩ => 0 ≤ i ∧ i ≤ 11 ∧ Bd b2 l Lb ∧ l = hdP p p.chaddr.length i.toNat ∧ l.length ≤ 8 * i) (fun ⟨i, l, Lb⟩ => (11 - i).toNat) (0, [], [BdO b2 none (.slice none 0 0)]) ?_ (by repeat (first | exact trivial | refine ⟨rfl, ?_⟩ | refine ⟨by (simp only [List.length_set]; rfl), ?_⟩)) (by repeat (first | exact List.Sublist.refl _ | exact List.sublist_append_left _ _ | exact List.nil_sublist _ | refine List.Sublist.append (List.Sublist.refl _) ?_ | apply List.Sublist.cons_cons | apply List.Sublist.cons | refine List.Sublist.trans ?_ (List.sublist_append_right _ _))) ?_
  · exact ⟨by omega, by omega, Bd.new b2, rfl, by simp⟩
  rintro ⟨i, l, Lb⟩ hI
  try dsimp only at hI ⊢
  obtain ⟨h0, h1, hB, hl, hll⟩ := hI
  have hf := fun h => fields_at b1 b3 h0 (i := i) h
  refine CW.seq ?_
  refine CW.region ?_
  refine W.p O.lss ?_
  refine WL.nil (Q.tn ?_)
  refine CW.seq ?_
  refine CW.cond (vt rfl) (fun hc2 => ?_) (fun hc2 => ?_)
  · try simp only [Bool.cond_true_left, Bool.cond_false_right, Bool.or_eq_true, Bool.or_eq_false_iff, Bool.and_eq_true, Bool.and_eq_false_iff, decide_eq_true_eq, decide_eq_false_iff_not, Bool.not_eq_true', Bool.not_eq_false'] at hc2
    have hf := hf hc2
    have cell : ∀ {L : Heap} [h1 : Blk L b1 (.cells (encPk p a c).toArray 72 (0, 0))] [h2 : Blk L b3 (.cells [.int .i64 p.chaddr.length].toArray 3 (0, 0))], Cell w [] L ((fieldsL b1 b3).getD i.toNat dF).1 (.int .i64 ((FV p p.chaddr.length).getD i.toNat 0)) := fun {L} _ _ => ⟨fun w' hw => pk_cells hw i h0 hc2⟩
    refine CW.skip (Q.tn ?_)
    refine CW.seq ?_
    refine CW.block ?_
    refine CW.seq ?_
    refine CW.region ?_
    refine W.p O.ixA ?_
    refine W.p O.ldsE ?_
    refine W.al rfl rfl fun b4 => ?_
    refine W.st (vt rfl) (vt rfl) rfl ?_
    refine WL.nil (Q.tn ?_)
    refine CW.draw 7 rfl (by kernel_rfl) ?_
    first | refine WQ.p O.fb ?_ | refine WQ.p O.fa ?_
    first | refine WQ.p O.ld ?_ | refine WQ.p O.ldC ?_
    refine WQ.p O.nc ?_
    first | refine WQ.p O.ld ?_ | refine WQ.p O.ldC ?_
    first | refine WQ.p O.fb ?_ | refine WQ.p O.fa ?_
    first | refine WQ.p O.ld ?_ | refine WQ.p O.ldC ?_
    refine WQ.q (O.call ⟨rfl, rfl⟩ (AV.cons (vt rfl) (AV.cons (vt rfl) (AV.nil))) (fun _ w hw => be_BytesI _ _ w (by rw [hf.1]; exact hf.2))) ?_
    refine WQ.nil ?_
    refine W.callS (first := []) (cap := []) Lb rfl (vt rfl) (AV.cons (vt rfl) (AV.cons (vt rfl) (AV.nil))) (fun w hu hh => bd_str w hB hh (by rw [beb_len, hf.1]; omega)) ?_; rintro _ Lb2 hB2
    refine WL.nil (Q.bn (Q.tn ?_))
    refine CW.region ?_
    first | refine W.p O.addN ?_ | refine W.p O.add ?_
    refine W.p O.mv ?_
    refine WL.nil (Q.tn ?_)
    refine ⟨(i + 1, l ++ beb ((FV p p.chaddr.length).getD i.toNat 0) ((fieldsL b1 b3).getD i.toNat dF).2.toNat, Lb2), ?_, ?_, (by repeat (first | exact trivial | refine ⟨rfl, ?_⟩ | refine ⟨by (simp only [List.length_set]; rfl), ?_⟩)), (by repeat (first | exact List.Sublist.refl _ | exact List.sublist_append_left _ _ | exact List.nil_sublist _ | refine List.Sublist.append (List.Sublist.refl _) ?_ | apply List.Sublist.cons_cons | apply List.Sublist.cons | refine List.Sublist.trans ?_ (List.sublist_append_right _ _)))⟩
    · try dsimp only
      refine ⟨by omega, by omega, hB2, by rw [hl, hdP_up _ _ h0, hf.1], by rw [List.length_append, beb_len, hf.1]; omega⟩
    · try dsimp only
      omega
  try simp only [Bool.cond_true_left, Bool.cond_false_right, Bool.or_eq_true, Bool.or_eq_false_iff, Bool.and_eq_true, Bool.and_eq_false_iff, decide_eq_true_eq, decide_eq_false_iff_not, Bool.not_eq_true', Bool.not_eq_false'] at hc2
  have hl28 : l.length = 28 := by rw [hl, show i.toNat = 11 by omega]; exact hdP_len _ _
  have hla : (l ++ p.chaddr).length = 28 + p.chaddr.length := by rw [List.length_append, hl28]
  have hrp : (List.replicate (236 - ((l ++ p.chaddr).length : Int)).toNat (0 : UInt8)).length = 208 - p.chaddr.length := by rw [List.length_replicate, hla]; omega
  have hlb : (l ++ p.chaddr ++ List.replicate (236 - ((l ++ p.chaddr).length : Int)).toNat (0 : UInt8)).length = 236 := by rw [List.length_append, hrp, hla]; omega
  refine CW.exit (Q.te (Q.te (Q.bx (Q.tn ?_))))
  refine CW.seq ?_
  refine CW.region ?_
  first | refine W.p O.fb ?_ | refine W.p O.fa ?_
  first | refine W.p O.ld ?_ | refine W.p O.ldC ?_
  refine W.callS (first := []) (cap := []) Lb rfl (vt rfl) (AV.cons (vt rfl) (AV.cons (vt rfl) (AV.nil))) (fun w hu hh => bd_str w hB hh (by omega)) ?_; rintro _ Lb3 hB3
  refine WL.nil (Q.tn ?_)
  refine CW.seq ?_
  refine CW.region ?_
  refine W.callS (first := []) (cap := []) Lb3 rfl (vt rfl) (AV.cons (vt rfl) (AV.nil)) (fun w hu hh => bd_len w hB3 hh) ?_; rintro _ Lx ⟨rfl, hLx⟩; rw [hLx]
  first | refine W.p O.subN ?_ | refine W.p O.sub ?_
  refine W.q (O.call ⟨rfl, rfl⟩ (AV.cons (vt rfl) (AV.cons (vt rfl) (AV.nil))) (fun _ w hw => st_RepI 0 _ w (by omega))) ?_
  refine W.callS (first := []) (cap := []) Lb3 rfl (vt rfl) (AV.cons (vt rfl) (AV.cons (vt rfl) (AV.nil))) (fun w hu hh => bd_str w hB3 hh (by omega)) ?_; rintro _ Lb4 hB4
  refine WL.nil (Q.tn ?_)
  refine CW.seq ?_
  refine CW.region ?_
  refine W.q (O.call ⟨rfl, rfl⟩ (AV.cons (vt rfl) (AV.cons (vt rfl) (AV.nil))) (fun _ w hw => be_Bytes _ 4 w (by decide))) ?_
  refine W.p O.mv ?_
  refine W.p O.addS ?_
  refine W.callS (first := []) (cap := []) Lb4 rfl (vt rfl) (AV.cons (vt rfl) (AV.cons (vt rfl) (AV.nil))) (fun w hu hh => bd_str w hB4 hh (by rw [hlb, List.length_append]; omega)) ?_; rintro _ Lb5 hB5
  refine WL.nil (Q.tn ?_)
  refine CW.seq ?_
  refine CW.region ?_
  refine W.callS (first := []) (cap := []) Lb5 rfl (vt rfl) (AV.cons (vt rfl) (AV.nil)) (fun w hu hh => bd_string w hB5 hh) ?_; rintro _ Lx rfl
  refine W.p O.as ?_
  refine W.p O.as ?_
  refine WL.nil (Q.tn ?_)
  refine CW.ret ?_
  refine ⟨_, [], (RVs.tmp rfl (RVs.tmp rfl RVs.nil)), List.nil_sublist _, ?_⟩
  rw [pkPut, if_neg (by rintro (h | h); exact h hc1.1; rw [hc1.2] at h; cases h)]
  refine ⟨?_, rfl⟩
  have hi : i.toNat = 11 := by omega
  have e : (236 - ((l ++ p.chaddr).length : Int)).toNat = 208 - p.chaddr.length := by rw [hla]; omega
  rw [e, hl, hi]; rfl
end Go.Proofs.Ytkjcmdgideddnaa
