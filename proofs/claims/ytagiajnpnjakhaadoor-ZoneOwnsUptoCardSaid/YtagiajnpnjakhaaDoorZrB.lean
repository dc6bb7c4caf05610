/- What the document's ConfMay comes to. Condition: the configuration's rows and texts are not longer than a million. -/
import Derived.Test.YtagiajnpnjakhaaDoorZrA
set_option linter.unusedVariables false
set_option linter.unusedSimpArgs false
namespace Go.Proofs.YtagiajnpnjakhaaDoor
open Go Go.RowKit
def cfPre (c : Cf) : Bool := decide (2 ≤ c.first) && decide (c.last ≤ 254) && decide (c.first ≤ c.last) && decide (c.last - c.first < 8) && decide (c.excl.length ≤ 8) && decide (c.resv.length ≤ 4) && decide (1 ≤ c.time) && decide (c.time ≤ 1048576) && !decide (c.zone = []) && nmMay c.zone
def exOk (c : Cf) : Bool := c.excl.all (fun h => inZ h c.first c.last) && decide c.excl.Nodup
def rvOk (c : Cf) : Bool := c.resv.all (fun r => inZ r.host c.first c.last && clMay r.client) && decide ((c.resv.map Rs.client).Nodup) && decide ((c.resv.map Rs.host).Nodup)
theorem cf_pre (c : Cf) : cfMay c = (cfPre c && decide ((labs c.zone).length ≤ 4) && decide (c.stat.length ≤ 8) && exOk c && rvOk c && c.stat.all (stMay c.zone)) := by
  rw [Bool.eq_iff_iff]
  simp only [cfMay, cfPre, exOk, rvOk, hostsOk, resOk, stOk, inZ, Bool.and_eq_true, decide_eq_true_eq, List.all_eq_true, List.mem_map, forall_exists_index, and_imp, forall_apply_eq_imp_iff₂, List.length_map]
  constructor
  · rintro ⟨⟨⟨⟨⟨⟨⟨⟨⟨⟨a1, a2⟩, a3⟩, a4⟩, a5⟩, a6⟩, a7⟩, a8, a8'⟩, ⟨a9, a10⟩, a11⟩, ⟨a12, a13⟩, ⟨a14, a15⟩, a16⟩, a17, a18⟩
    exact ⟨⟨⟨⟨⟨⟨⟨⟨⟨⟨⟨⟨⟨⟨a1, a3⟩, a2⟩, a4⟩, a11⟩, a16⟩, a8⟩, a8'⟩, a5⟩, a6⟩, a7⟩, a18⟩, a9, a10⟩, ⟨fun r hr => ⟨a14 r hr, a12 r hr⟩, a13⟩, a15⟩, a17⟩
  · rintro ⟨⟨⟨⟨⟨⟨⟨⟨⟨⟨⟨⟨⟨⟨a1, a3⟩, a2⟩, a4⟩, a11⟩, a16⟩, a8⟩, a8'⟩, a5⟩, a6⟩, a7⟩, a18⟩, a9, a10⟩, ⟨a12, a13⟩, a15⟩, a17⟩
    exact ⟨⟨⟨⟨⟨⟨⟨⟨⟨⟨a1, a2⟩, a3⟩, a4⟩, a5⟩, a6⟩, a7⟩, a8, a8'⟩, ⟨a9, a10⟩, a11⟩, ⟨fun r hr => (a12 r hr).2, a13⟩, ⟨fun r hr => (a12 r hr).1, a15⟩, a16⟩, a17, a18⟩
theorem pre_eq (c : Cf) : (bif bif bif bif bif bif bif bif bif decide (c.first < 2) then true else decide (254 < c.last) then true else decide (c.last < c.first) then true else decide (8 ≤ IntKind.i64.wrap (c.last - c.first)) then true else decide (8 < (c.excl.length : Int)) then true else decide (4 < (c.resv.length : Int)) then true else decide (c.time < 1) then true else decide (1048576 < c.time) then true else decide (c.zone = []) then true else !nmMay c.zone) = !cfPre c := by
  have e1 : ∀ a b : Int, decide (a < b) = !decide (b ≤ a) := fun a b => by rw [← decide_not]; exact decide_eq_decide.2 (by omega)
  have e2 : decide (8 ≤ c.last - c.first) = !decide (c.last - c.first < 8) := by rw [← decide_not]; exact decide_eq_decide.2 (by omega)
  have e3 : decide (8 < (c.excl.length : Int)) = !decide (c.excl.length ≤ 8) := by rw [← decide_not]; exact decide_eq_decide.2 (by omega)
  have e4 : decide (4 < (c.resv.length : Int)) = !decide (c.resv.length ≤ 4) := by rw [← decide_not]; exact decide_eq_decide.2 (by omega)
  simp only [Bool.cond_true_left, cfPre, Bool.not_and, Bool.not_not]
  by_cases h1 : 2 ≤ c.first
  · by_cases h2 : c.last ≤ 254
    · by_cases h3 : c.first ≤ c.last
      · rw [wrap_in _ (by omega), e2, e3, e4]; simp only [e1, Bool.not_not]
      · simp [h3, show c.last < c.first by omega]
    · simp [h2, show 254 < c.last by omega]
  · simp [h1, show c.first < 2 by omega]
theorem take_in {α : Type} {d : α} {l : List α} {j i : Int} (h0 : 0 ≤ j) (hj : j < i) (hi : i < l.length) : l.getD j.toNat d ∈ l.take i.toNat := by
  have hlt : j.toNat < (l.take i.toNat).length := by rw [List.length_take]; omega
  rw [List.getD_eq_getElem?_getD, List.getElem?_eq_getElem (by omega), Option.getD_some]
  have := List.getElem_mem hlt
  rwa [List.getElem_take] at this
theorem map_get {l : List Rs} {i : Int} (h0 : 0 ≤ i) (h1 : i < l.length) : (l.map Rs.client).getD i.toNat [] = (l.getD i.toNat dRs).client ∧ (l.map Rs.host).getD i.toNat 0 = (l.getD i.toNat dRs).host := by
  constructor <;> rw [List.getD_eq_getElem?_getD, List.getD_eq_getElem?_getD, List.getElem?_map, List.getElem?_eq_getElem (by omega)] <;> rfl
theorem cf_no {c : Cf} (h : decide ((labs c.zone).length ≤ 4) = false ∨ decide (c.stat.length ≤ 8) = false ∨ exOk c = false ∨ rvOk c = false ∨ c.stat.all (stMay c.zone) = false) : cfMay c = false := by
  rw [cf_pre]; rcases h with h | h | h | h | h <;> rw [h] <;> simp
set_option maxRecDepth 100000 in
theorem ref_ConfB (c : Cf) (e r s : Sl2) (w : World) (h : CfIn w c e r s) (hz : CfSz c) (hB : cfPre c = false) : Fn Tryd.prog 49 [vCf c e r s] w [] fun v L' => v = .bool (cfMay c) ∧ L' = [] := by
  refine Fn.enter Tryd.func49 rfl rfl rfl rfl (Holds.nil w) ?_
  refine CW.seq ?_
  refine CW.region ?_
  refine W.bx rfl (vt rfl) rfl fun b1 => ?_
  refine W.p O.as ?_
  refine WL.nil (Q.tn ?_)
  refine CW.seq ?_
  refine CW.seq ?_
  refine CW.region ?_
  first | refine W.p O.fb ?_ | refine W.p O.fa ?_
  refine W.p O.ld ?_
  refine W.p O.lss ?_
  refine W.p O.mv ?_
  first | refine W.p O.fb ?_ | refine W.p O.fa ?_
  refine W.p O.ld ?_
  refine W.p O.gtr ?_
  refine W.p O.pkB ?_
  refine W.p O.mv ?_
  first | refine W.p O.fb ?_ | refine W.p O.fa ?_
  refine W.p O.ld ?_
  first | refine W.p O.fb ?_ | refine W.p O.fa ?_
  refine W.p O.ld ?_
  refine W.p O.gtr ?_
  refine W.p O.pkB ?_
  refine W.p O.mv ?_
  first | refine W.p O.fb ?_ | refine W.p O.fa ?_
  refine W.p O.ld ?_
  first | refine W.p O.fb ?_ | refine W.p O.fa ?_
  refine W.p O.ld ?_
  first | refine W.p O.subN ?_ | refine W.p O.sub ?_
  refine W.p O.geq ?_
  refine W.p O.pkB ?_
  refine W.p O.mv ?_
  first | refine W.p O.fb ?_ | refine W.p O.fa ?_
  refine W.p O.ld ?_
  refine W.p O.lenL ?_
  refine W.p O.gtr ?_
  refine W.p O.pkB ?_
  refine W.p O.mv ?_
  first | refine W.p O.fb ?_ | refine W.p O.fa ?_
  refine W.p O.ld ?_
  refine W.p O.lenL ?_
  refine W.p O.gtr ?_
  refine W.p O.pkB ?_
  refine W.p O.mv ?_
  first | refine W.p O.fb ?_ | refine W.p O.fa ?_
  refine W.p O.ld ?_
  refine W.p O.lss ?_
  refine W.p O.pkB ?_
  refine W.p O.mv ?_
  first | refine W.p O.fb ?_ | refine W.p O.fa ?_
  refine W.p O.ld ?_
  refine W.p O.gtr ?_
  refine W.p O.pkB ?_
  refine W.p O.mv ?_
  first | refine W.p O.fb ?_ | refine W.p O.fa ?_
  refine W.p O.ld ?_
  refine W.p O.eqS ?_
  refine W.p O.pkB ?_
  refine W.p O.mv ?_
  first | refine W.p O.fb ?_ | refine W.p O.fa ?_
  refine W.p O.ld ?_
  refine W.q (O.call ⟨rfl, rfl⟩ (AV.cons (vs rfl) (AV.nil)) (fun _ w hw => ref_NameMay _ w (by have := hz.hz; omega))) ?_
  refine W.p O.nt ?_
  refine W.p O.pkB ?_
  refine W.p O.mv ?_
  first | (refine WL.kn (v := true) (by rfl) ?_ ?_; focus (rw [pre_eq, hB]; rfl)) | (refine WL.kn (v := false) (by rfl) ?_ ?_; focus (rw [pre_eq, hB]; rfl))
  first | refine W.p O.fb ?_ | refine W.p O.fa ?_
  refine W.p O.ld ?_
  refine (W.offc (.slice none 0 0) rfl rfl rfl ?_)
  refine W.p O.lenL ?_
  refine W.p O.gtr ?_
  refine W.p O.pkB ?_
  refine W.p O.mv ?_
  first | refine W.p O.fb ?_ | refine W.p O.fa ?_
  refine W.p O.ld ?_
  refine W.p O.lenL ?_
  refine W.p O.gtr ?_
  refine W.p O.pkB ?_
  refine WL.nil (Q.tn ?_)
  refine CW.cond (vt rfl) (fun hc1 => ?_) (fun hc1 => ?_)
  · try simp only [sk] at hc1
    refine CW.seq ?_
    refine CW.region ?_
    refine W.p O.as ?_
    refine WL.nil (Q.tn ?_)
    refine CW.ret (Q.tr ?_)
    refine ⟨_, [], (RVs.tmp rfl RVs.nil), List.nil_sublist _, ?_⟩
    rw [cf_pre, hB]; exact ⟨rfl, rfl⟩
  exact absurd hc1 (by simp)
set_option maxRecDepth 100000 in
theorem ref_ConfA (c : Cf) (e r s : Sl2) (w : World) (h : CfIn w c e r s) (hz : CfSz c) (hA : cfPre c = true) : Fn Tryd.prog 49 [vCf c e r s] w [] fun v L' => v = .bool (cfMay c) ∧ L' = [] := by
  have hnz : nmMay c.zone = true := by rw [cfPre] at hA; simp only [Bool.and_eq_true] at hA; exact hA.2
  have rowx := Row.ofE (dv := (0 : Int)) h.hx
  have rowr := Row.ofE (dv := dRs) h.hr
  have rows := Row.ofE (dv := dR) h.hs
  have hzx := hz.hx; have hzr := hz.hr; have hzs := hz.hs
  refine Fn.enter Tryd.func49 rfl rfl rfl rfl (Holds.nil w) ?_
  refine CW.seq ?_
  refine CW.region ?_
  refine W.bx rfl (vt rfl) rfl fun b1 => ?_
  refine W.p O.as ?_
  refine WL.nil (Q.tn ?_)
  refine CW.seq ?_
  refine CW.seq ?_
  refine CW.region ?_
  first | refine W.p O.fb ?_ | refine W.p O.fa ?_
  refine W.p O.ld ?_
  refine W.p O.lss ?_
  refine W.p O.mv ?_
  first | refine W.p O.fb ?_ | refine W.p O.fa ?_
  refine W.p O.ld ?_
  refine W.p O.gtr ?_
  refine W.p O.pkB ?_
  refine W.p O.mv ?_
  first | refine W.p O.fb ?_ | refine W.p O.fa ?_
  refine W.p O.ld ?_
  first | refine W.p O.fb ?_ | refine W.p O.fa ?_
  refine W.p O.ld ?_
  refine W.p O.gtr ?_
  refine W.p O.pkB ?_
  refine W.p O.mv ?_
  first | refine W.p O.fb ?_ | refine W.p O.fa ?_
  refine W.p O.ld ?_
  first | refine W.p O.fb ?_ | refine W.p O.fa ?_
  refine W.p O.ld ?_
  first | refine W.p O.subN ?_ | refine W.p O.sub ?_
  refine W.p O.geq ?_
  refine W.p O.pkB ?_
  refine W.p O.mv ?_
  first | refine W.p O.fb ?_ | refine W.p O.fa ?_
  refine W.p O.ld ?_
  refine W.p O.lenL ?_
  refine W.p O.gtr ?_
  refine W.p O.pkB ?_
  refine W.p O.mv ?_
  first | refine W.p O.fb ?_ | refine W.p O.fa ?_
  refine W.p O.ld ?_
  refine W.p O.lenL ?_
  refine W.p O.gtr ?_
  refine W.p O.pkB ?_
  refine W.p O.mv ?_
  first | refine W.p O.fb ?_ | refine W.p O.fa ?_
  refine W.p O.ld ?_
  refine W.p O.lss ?_
  refine W.p O.pkB ?_
  refine W.p O.mv ?_
  first | refine W.p O.fb ?_ | refine W.p O.fa ?_
  refine W.p O.ld ?_
  refine W.p O.gtr ?_
  refine W.p O.pkB ?_
  refine W.p O.mv ?_
  first | refine W.p O.fb ?_ | refine W.p O.fa ?_
  refine W.p O.ld ?_
  refine W.p O.eqS ?_
  refine W.p O.pkB ?_
  refine W.p O.mv ?_
  first | refine W.p O.fb ?_ | refine W.p O.fa ?_
  refine W.p O.ld ?_
  refine W.q (O.call ⟨rfl, rfl⟩ (AV.cons (vs rfl) (AV.nil)) (fun _ w hw => ref_NameMay _ w (by have := hz.hz; omega))) ?_
  refine W.p O.nt ?_
  refine W.p O.pkB ?_
  refine W.p O.mv ?_
  first | (refine WL.kn (v := true) (by rfl) ?_ ?_; focus (rw [pre_eq, hA]; rfl)) | (refine WL.kn (v := false) (by rfl) ?_ ?_; focus (rw [pre_eq, hA]; rfl))
  first | refine W.p O.fb ?_ | refine W.p O.fa ?_
  refine W.p O.ld ?_
  refine W.ug rfl ?_
  refine W.callN (first := []) (cap := []) rfl (vt rfl) (AV.cons (vs rfl) (AV.nil)) (fun w hu => ref_Labels c.zone w (by have := hz.hz; omega)) ?_; rintro _ _ ⟨o9, c9, sp9, rfl, ok9, rfl⟩; have nk9 := ok9.nk
  refine W.p O.lenL ?_
  refine W.p O.gtr ?_
  refine W.p O.pkB ?_
  refine W.p O.mv ?_
  first | refine W.p O.fb ?_ | refine W.p O.fa ?_
  refine W.p O.ld ?_
  refine W.p O.lenL ?_
  refine W.p O.gtr ?_
  refine W.p O.pkB ?_
  refine WL.nil (Q.tn ?_)
  refine CW.cond (vt rfl) (fun hc1 => ?_) (fun hc1 => ?_)
  · try simp only [sk] at hc1
    refine CW.seq ?_
    refine CW.region ?_
    refine W.p O.as ?_
    refine WL.nil (Q.tn ?_)
    refine CW.ret (Q.tr ?_)
    refine ⟨_, [], (RVs.tmp rfl RVs.nil), List.nil_sublist _, ?_⟩
    have hll := lbls_len hnz
    rw [cf_no (c := c) (by rcases hc1 with (hq | hq) | hq; (cases hq); (left; exact decide_eq_false (by omega)); (right; left; exact decide_eq_false (by omega)))]; exact ⟨rfl, rfl⟩
  try simp only [sk] at hc1
  refine CW.skip (Q.tn ?_)
  refine CW.seq ?_
  refine CW.seq ?_
  refine CW.region ?_
  refine W.p O.as ?_
  refine WL.nil (Q.tn ?_)
  refine CW.block ?_
  refine CW.loopA (X := Int) (fun i => [(1, true, .pointer (some ⟨b1, 0, none⟩)), (3, true, .int .i64 i)]) (fun i => [(b1, .cells (encCf c e r s).toArray 26 (0, 0))]) (fun i => 0 ≤ i ∧ i ≤ c.excl.length ∧ (c.excl.take i.toNat).all (fun h => inZ h c.first c.last) = true ∧ (c.excl.take i.toNat).Nodup) (fun i => (c.excl.length - i).toNat) (0) ?_ ?_
  · exact ⟨by omega, by omega, rfl, List.nodup_nil⟩
  rintro i hI
  try dsimp only at hI ⊢
  obtain ⟨h0, h1, ha, hd⟩ := hI
  refine CW.seq ?_
  refine CW.seq ?_
  refine CW.region ?_
  refine W.p O.mv ?_
  first | refine W.p O.fb ?_ | refine W.p O.fa ?_
  refine W.p O.ld ?_
  refine W.p O.lenL ?_
  refine W.p O.lss ?_
  refine WL.nil (Q.tn ?_)
  refine CW.cond (vt rfl) (fun hc2 => ?_) (fun hc2 => ?_)
  · try simp only [sk] at hc2
    refine CW.skip (Q.tn ?_)
    refine CW.seq ?_
    refine CW.block ?_
    refine CW.seq ?_
    refine CW.seq ?_
    refine CW.draw 18 rfl (by kernel_rfl) ?_
    first | refine WQ.p O.fb ?_ | refine WQ.p O.fa ?_
    refine WQ.p O.ld ?_
    refine WQ.p O.mv ?_
    refine WQ.p O.ixA ?_
    refine WQ.p O.ldE ?_
    first | refine WQ.p O.fb ?_ | refine WQ.p O.fa ?_
    refine WQ.p O.ld ?_
    refine WQ.p O.lss ?_
    refine WQ.p O.mv ?_
    first | refine WQ.p O.fb ?_ | refine WQ.p O.fa ?_
    refine WQ.p O.ld ?_
    refine WQ.p O.mv ?_
    refine WQ.p O.ixA ?_
    refine WQ.p O.ldE ?_
    first | refine WQ.p O.fb ?_ | refine WQ.p O.fa ?_
    refine WQ.p O.ld ?_
    refine WQ.p O.gtr ?_
    refine WQ.p O.pkB ?_
    refine WQ.nil ?_
    refine WL.nil (Q.tn ?_)
    refine CW.cond (vt rfl) (fun hc3 => ?_) (fun hc3 => ?_)
    · try simp only [sk] at hc3
      refine CW.seq ?_
      refine CW.region ?_
      refine W.p O.as ?_
      refine WL.nil (Q.tn ?_)
      refine CW.ret (Q.tr (Q.br (Q.tr (Q.tr (Q.br (Q.tr ?_))))))
      refine ⟨_, [], (RVs.tmp rfl RVs.nil), List.nil_sublist _, ?_⟩
      have hex : c.excl.all (fun h => inZ h c.first c.last) = false := List.all_eq_false.2 ⟨_, mem_at 0 h0 hc2, by simp only [inZ, Bool.and_eq_true, decide_eq_true_eq]; omega⟩
      rw [cf_no (c := c) (.inr (.inr (.inl (by rw [exOk, hex]; rfl))))]; exact ⟨rfl, rfl⟩
    try simp only [sk] at hc3
    refine CW.skip (Q.tn ?_)
    refine CW.seq ?_
    refine CW.region ?_
    refine W.p O.as ?_
    refine WL.nil (Q.tn ?_)
    refine CW.block ?_
    refine CW.loopA (X := Int) (fun j => [(1, true, .pointer (some ⟨b1, 0, none⟩)), (3, true, .int .i64 i), (4, true, .int .i64 j)]) (fun j => [(b1, .cells (encCf c e r s).toArray 26 (0, 0))]) (fun j => 0 ≤ j ∧ j ≤ i ∧ c.excl.getD i.toNat 0 ∉ c.excl.take j.toNat) (fun j => (i - j).toNat) (0) ?_ ?_
    · exact ⟨by omega, by omega, by simp⟩
    rintro j hI
    try dsimp only at hI ⊢
    obtain ⟨j0, j1, jn⟩ := hI
    refine CW.seq ?_
    refine CW.seq ?_
    refine CW.region ?_
    refine W.p O.mv ?_
    refine W.p O.mv ?_
    refine W.p O.lss ?_
    refine WL.nil (Q.tn ?_)
    refine CW.cond (vt rfl) (fun hc4 => ?_) (fun hc4 => ?_)
    · try simp only [sk] at hc4
      refine CW.skip (Q.tn ?_)
      refine CW.seq ?_
      refine CW.block ?_
      refine CW.seq ?_
      refine CW.draw 11 rfl (by kernel_rfl) ?_
      first | refine WQ.p O.fb ?_ | refine WQ.p O.fa ?_
      refine WQ.p O.ld ?_
      refine WQ.p O.mv ?_
      refine WQ.p O.ixA ?_
      refine WQ.p O.ldE ?_
      first | refine WQ.p O.fb ?_ | refine WQ.p O.fa ?_
      refine WQ.p O.ld ?_
      refine WQ.p O.mv ?_
      refine WQ.p O.ixA ?_
      refine WQ.p O.ldE ?_
      refine WQ.p O.eqI ?_
      refine WQ.nil ?_
      refine WL.nil (Q.tn ?_)
      refine CW.cond (vt rfl) (fun hc5 => ?_) (fun hc5 => ?_)
      · try simp only [sk] at hc5
        refine CW.seq ?_
        refine CW.region ?_
        refine W.p O.as ?_
        refine WL.nil (Q.tn ?_)
        refine CW.ret (Q.br (Q.tr (Q.tr (Q.br (Q.br (Q.tr (Q.tr (Q.br (Q.tr ?_)))))))))
        refine ⟨_, [], (RVs.tmp rfl RVs.nil), List.nil_sublist _, ?_⟩
        have hnn := nodup_no (d := (0 : Int)) h0 hc2 (by rw [← hc5]; exact take_in j0 hc4 hc2)
        rw [cf_no (c := c) (.inr (.inr (.inl (by rw [exOk, decide_eq_false hnn, Bool.and_false]))))]; exact ⟨rfl, rfl⟩
      try simp only [sk] at hc5
      refine CW.skip (Q.bn (Q.tn ?_))
      refine CW.region ?_
      refine W.p O.mv ?_
      first | refine W.p O.addN ?_ | refine W.p O.add ?_
      refine W.p O.as ?_
      refine WL.nil (Q.tn ?_)
      refine nextA (_) ?_ ?_
      · try dsimp only
        refine ⟨by omega, by omega, ?_⟩
        rw [take_at' 0 j0 (by omega), List.mem_append, List.mem_singleton]; rintro (hq | hq); (exact jn hq); (exact hc5 hq.symm)
      · try dsimp only
        omega
    try simp only [sk] at hc4
    refine CW.exit (Q.te (Q.te (Q.bx (Q.bn (Q.tn ?_)))))
    refine CW.region ?_
    refine W.p O.mv ?_
    first | refine W.p O.addN ?_ | refine W.p O.add ?_
    refine W.p O.as ?_
    refine WL.nil (Q.tn ?_)
    refine nextA (i + 1) ?_ ?_
    · try dsimp only
      refine ⟨by omega, by omega, ?_, ?_⟩
      · rw [take_at' 0 h0 hc2, List.all_append, ha]; simp only [List.all_cons, List.all_nil, Bool.and_true, Bool.true_and, inZ, Bool.and_eq_true, decide_eq_true_eq]; omega
      · rw [take_at' 0 h0 hc2, nodup_snoc]; exact ⟨hd, by rwa [show j = i by omega] at jn⟩
    · try dsimp only
      omega
  try simp only [sk] at hc2
  refine CW.exit (Q.te (Q.te (Q.bx (Q.tn ?_))))
  refine CW.seq ?_
  refine CW.seq ?_
  refine CW.region ?_
  refine W.p O.as ?_
  refine WL.nil (Q.tn ?_)
  refine CW.block ?_
  refine CW.loopA (X := Int) (fun i => [(1, true, .pointer (some ⟨b1, 0, none⟩)), (5, true, .int .i64 i)]) (fun i => [(b1, .cells (encCf c e r s).toArray 26 (0, 0))]) (fun i => 0 ≤ i ∧ i ≤ c.resv.length ∧ (c.resv.take i.toNat).all (fun r => inZ r.host c.first c.last && clMay r.client) = true ∧ ((c.resv.take i.toNat).map Rs.client).Nodup ∧ ((c.resv.take i.toNat).map Rs.host).Nodup) (fun i => (c.resv.length - i).toNat) (0) ?_ ?_
  · exact ⟨by omega, by omega, rfl, List.nodup_nil, List.nodup_nil⟩
  rintro i hI
  try dsimp only at hI ⊢
  obtain ⟨g0, g1, ga, gc, gd⟩ := hI
  refine CW.seq ?_
  refine CW.seq ?_
  refine CW.region ?_
  refine W.p O.mv ?_
  first | refine W.p O.fb ?_ | refine W.p O.fa ?_
  refine W.p O.ld ?_
  refine W.p O.lenL ?_
  refine W.p O.lss ?_
  refine WL.nil (Q.tn ?_)
  refine CW.cond (vt rfl) (fun hc6 => ?_) (fun hc6 => ?_)
  · try simp only [sk] at hc6
    have hcl := hz.hc _ (mem_at dRs g0 hc6)
    refine CW.skip (Q.tn ?_)
    refine CW.seq ?_
    refine CW.block ?_
    refine CW.seq ?_
    refine CW.region ?_
    first | refine W.p O.fb ?_ | refine W.p O.fa ?_
    refine W.p O.ld ?_
    refine W.p O.mv ?_
    refine W.p O.ixA ?_
    refine W.p O.ldsE ?_
    refine W.al rfl rfl fun b2 => ?_
    refine W.st (vt rfl) (vt rfl) rfl ?_
    refine WL.nil (Q.tn ?_)
    refine CW.seq ?_
    refine CW.seq ?_
    refine CW.region ?_
    first | refine W.p O.fb ?_ | refine W.p O.fa ?_
    refine W.p O.ld ?_
    first | refine W.p O.fb ?_ | refine W.p O.fa ?_
    refine W.p O.ld ?_
    refine W.p O.lss ?_
    refine W.p O.mv ?_
    first | refine W.p O.fb ?_ | refine W.p O.fa ?_
    refine W.p O.ld ?_
    first | refine W.p O.fb ?_ | refine W.p O.fa ?_
    refine W.p O.ld ?_
    refine W.p O.gtr ?_
    refine W.p O.pkB ?_
    refine W.p O.mv ?_
    first | refine W.p O.fb ?_ | refine W.p O.fa ?_
    refine W.p O.ld ?_
    refine W.q (O.call ⟨rfl, rfl⟩ (AV.cons (vs rfl) (AV.nil)) (fun _ w hw => ref_client _ w (by omega))) ?_
    refine W.p O.nt ?_
    refine W.p O.pkB ?_
    refine WL.nil (Q.tn ?_)
    refine CW.cond (vt rfl) (fun hc7 => ?_) (fun hc7 => ?_)
    · try simp only [sk] at hc7
      refine CW.seq ?_
      refine CW.region ?_
      refine W.p O.as ?_
      refine WL.nil (Q.tn ?_)
      refine CW.ret (Q.tr (Q.br (Q.tr (Q.tr (Q.br (Q.tr ?_))))))
      refine ⟨_, [], (RVs.tmp rfl RVs.nil), List.nil_sublist _, ?_⟩
      have hex : c.resv.all (fun r => inZ r.host c.first c.last && clMay r.client) = false := List.all_eq_false.2 ⟨_, mem_at dRs g0 hc6, by simp only [inZ, Bool.and_eq_true, decide_eq_true_eq]; rintro ⟨a1, a2⟩; rcases hc7 with hq | hq; (omega); (rw [hq] at a2; cases a2)⟩
      rw [cf_no (c := c) (.inr (.inr (.inr (.inl (by rw [rvOk, hex]; rfl)))))]; exact ⟨rfl, rfl⟩
    try simp only [sk] at hc7
    refine CW.skip (Q.tn ?_)
    refine CW.seq ?_
    refine CW.region ?_
    refine W.p O.as ?_
    refine WL.nil (Q.tn ?_)
    refine CW.block ?_
    refine CW.loopA (X := Int) (fun j => [(1, true, .pointer (some ⟨b1, 0, none⟩)), (5, true, .int .i64 i), (6, true, .pointer (some ⟨b2, 0, none⟩)), (7, true, .int .i64 j)]) (fun j => [(b2, .cells (encRs (c.resv.getD i.toNat dRs)).toArray 97 (0, 0)), (b1, .cells (encCf c e r s).toArray 26 (0, 0))]) (fun j => 0 ≤ j ∧ j ≤ i ∧ (c.resv.getD i.toNat dRs).host ∉ (c.resv.take j.toNat).map Rs.host ∧ (c.resv.getD i.toNat dRs).client ∉ (c.resv.take j.toNat).map Rs.client) (fun j => (i - j).toNat) (0) ?_ ?_
    · exact ⟨by omega, by omega, by simp, by simp⟩
    rintro j hI
    try dsimp only at hI ⊢
    obtain ⟨j0, j1, jh, jc⟩ := hI
    refine CW.seq ?_
    refine CW.seq ?_
    refine CW.region ?_
    refine W.p O.mv ?_
    refine W.p O.mv ?_
    refine W.p O.lss ?_
    refine WL.nil (Q.tn ?_)
    refine CW.cond (vt rfl) (fun hc8 => ?_) (fun hc8 => ?_)
    · try simp only [sk] at hc8
      refine CW.skip (Q.tn ?_)
      refine CW.seq ?_
      refine CW.block ?_
      refine CW.seq ?_
      refine CW.draw 20 rfl (by kernel_rfl) ?_
      first | refine WQ.p O.fb ?_ | refine WQ.p O.fa ?_
      refine WQ.p O.ld ?_
      refine WQ.p O.mv ?_
      refine WQ.p O.ixA ?_
      first | refine WQ.p O.fe ?_ | refine WQ.p O.feR ?_
      refine WQ.p O.ldE ?_
      first | refine WQ.p O.fb ?_ | refine WQ.p O.fa ?_
      refine WQ.p O.ld ?_
      refine WQ.p O.eqI ?_
      refine WQ.p O.mv ?_
      first | refine WQ.p O.fb ?_ | refine WQ.p O.fa ?_
      refine WQ.p O.ld ?_
      refine WQ.p O.mv ?_
      refine WQ.p O.ixA ?_
      first | refine WQ.p O.fe ?_ | refine WQ.p O.feR ?_
      refine WQ.p O.ldE ?_
      first | refine WQ.p O.fb ?_ | refine WQ.p O.fa ?_
      refine WQ.p O.ld ?_
      refine WQ.p O.eqS ?_
      refine WQ.p O.pkB ?_
      refine WQ.nil ?_
      refine WL.nil (Q.tn ?_)
      refine CW.cond (vt rfl) (fun hc9 => ?_) (fun hc9 => ?_)
      · try simp only [sk] at hc9
        refine CW.seq ?_
        refine CW.region ?_
        refine W.p O.as ?_
        refine WL.nil (Q.tn ?_)
        refine CW.ret (Q.br (Q.tr (Q.tr (Q.br (Q.br (Q.tr (Q.tr (Q.br (Q.tr ?_)))))))))
        refine ⟨_, [], (RVs.tmp rfl RVs.nil), List.nil_sublist _, ?_⟩
        have hmg := map_get (l := c.resv) g0 hc6
        have htk := take_in (d := dRs) j0 hc8 hc6
        have hrv : rvOk c = false := by
          rcases hc9 with hq | hq
          · have hnn := nodup_no (d := (0 : Int)) (l := c.resv.map Rs.host) g0 (by simpa using hc6) (by rw [hmg.2, ← List.map_take, ← hq]; exact List.mem_map_of_mem htk)
            rw [rvOk, decide_eq_false hnn, Bool.and_false]
          · have hnn := nodup_no (d := ([] : List UInt8)) (l := c.resv.map Rs.client) g0 (by simpa using hc6) (by rw [hmg.1, ← List.map_take, ← hq]; exact List.mem_map_of_mem htk)
            rw [rvOk, decide_eq_false hnn, Bool.and_false, Bool.false_and]
        rw [cf_no (c := c) (.inr (.inr (.inr (.inl hrv))))]; exact ⟨rfl, rfl⟩
      try simp only [sk] at hc9
      refine CW.skip (Q.bn (Q.tn ?_))
      refine CW.region ?_
      refine W.p O.mv ?_
      first | refine W.p O.addN ?_ | refine W.p O.add ?_
      refine W.p O.as ?_
      refine WL.nil (Q.tn ?_)
      refine nextA (_) ?_ ?_
      · try dsimp only
        refine ⟨by omega, by omega, ?_, ?_⟩
        · rw [take_at' dRs j0 (by omega), List.map_append, List.mem_append]; rintro (hq | hq); (exact jh hq); (simp only [List.map_cons, List.map_nil, List.mem_singleton] at hq; exact hc9.1 hq.symm)
        · rw [take_at' dRs j0 (by omega), List.map_append, List.mem_append]; rintro (hq | hq); (exact jc hq); (simp only [List.map_cons, List.map_nil, List.mem_singleton] at hq; exact hc9.2 hq.symm)
      · try dsimp only
        omega
    try simp only [sk] at hc8
    refine CW.exit (Q.te (Q.te (Q.bx (Q.bn (Q.tn ?_)))))
    refine CW.region ?_
    refine W.p O.mv ?_
    first | refine W.p O.addN ?_ | refine W.p O.add ?_
    refine W.p O.as ?_
    refine WL.nil (Q.tn ?_)
    refine nextA (i + 1) ?_ ?_
    · try dsimp only
      refine ⟨by omega, by omega, ?_, ?_, ?_⟩
      · rw [take_at' dRs g0 hc6, List.all_append, ga]; simp only [List.all_cons, List.all_nil, Bool.and_true, Bool.true_and, inZ, Bool.and_eq_true, decide_eq_true_eq]; exact ⟨by omega, hc7.2⟩
      · rw [take_at' dRs g0 hc6, List.map_append]; exact nodup_snoc.2 ⟨gc, by rwa [show j = i by omega] at jc⟩
      · rw [take_at' dRs g0 hc6, List.map_append]; exact nodup_snoc.2 ⟨gd, by rwa [show j = i by omega] at jh⟩
    · try dsimp only
      omega
  try simp only [sk] at hc6
  refine CW.exit (Q.te (Q.te (Q.bx (Q.tn ?_))))
  refine CW.seq ?_
  refine CW.seq ?_
  refine CW.region ?_
  refine W.p O.as ?_
  refine WL.nil (Q.tn ?_)
  refine CW.block ?_
  refine CW.loopA (X := Int) (fun i => [(1, true, .pointer (some ⟨b1, 0, none⟩)), (8, true, .int .i64 i)]) (fun i => [(b1, .cells (encCf c e r s).toArray 26 (0, 0))]) (fun i => 0 ≤ i ∧ i ≤ c.stat.length ∧ (c.stat.take i.toNat).all (stMay c.zone) = true) (fun i => (c.stat.length - i).toNat) (0) ?_ ?_
  · exact ⟨by omega, by omega, rfl⟩
  rintro i hI
  try dsimp only at hI ⊢
  obtain ⟨k0, k1, ka⟩ := hI
  refine CW.seq ?_
  refine CW.seq ?_
  refine CW.region ?_
  refine W.p O.mv ?_
  first | refine W.p O.fb ?_ | refine W.p O.fa ?_
  refine W.p O.ld ?_
  refine W.p O.lenL ?_
  refine W.p O.lss ?_
  refine WL.nil (Q.tn ?_)
  refine CW.cond (vt rfl) (fun hc10 => ?_) (fun hc10 => ?_)
  · try simp only [sk] at hc10
    have hnn := hz.hn _ (mem_at dR k0 hc10)
    refine CW.skip (Q.tn ?_)
    refine CW.seq ?_
    refine CW.block ?_
    refine CW.seq ?_
    refine CW.draw 9 rfl (by kernel_rfl) ?_
    first | refine WQ.p O.fb ?_ | refine WQ.p O.fa ?_
    refine WQ.p O.ld ?_
    refine WQ.p O.mv ?_
    refine WQ.p O.ixA ?_
    refine WQ.p O.ldsE ?_
    first | refine WQ.p O.fb ?_ | refine WQ.p O.fa ?_
    refine WQ.p O.ld ?_
    refine WQ.q (O.call ⟨rfl, rfl⟩ (AV.cons (vt rfl) (AV.cons (vt rfl) (AV.nil))) (fun _ w hw => ref_static _ _ w (by omega) (by omega) (by have := hz.hz; omega))) ?_
    refine WQ.p O.nt ?_
    refine WQ.nil ?_
    refine WL.nil (Q.tn ?_)
    refine CW.cond (vt rfl) (fun hc11 => ?_) (fun hc11 => ?_)
    · try simp only [sk] at hc11
      refine CW.seq ?_
      refine CW.region ?_
      refine W.p O.as ?_
      refine WL.nil (Q.tn ?_)
      refine CW.ret (Q.br (Q.tr (Q.tr (Q.br (Q.tr ?_)))))
      refine ⟨_, [], (RVs.tmp rfl RVs.nil), List.nil_sublist _, ?_⟩
      have hex : c.stat.all (stMay c.zone) = false := List.all_eq_false.2 ⟨_, mem_at dR k0 hc10, by rw [hc11]; decide⟩
      rw [cf_no (c := c) (.inr (.inr (.inr (.inr hex))))]; exact ⟨rfl, rfl⟩
    try simp only [sk] at hc11
    refine CW.skip (Q.bn (Q.tn ?_))
    refine CW.region ?_
    refine W.p O.mv ?_
    first | refine W.p O.addN ?_ | refine W.p O.add ?_
    refine W.p O.as ?_
    refine WL.nil (Q.tn ?_)
    refine nextA (_) ?_ ?_
    · try dsimp only
      exact ⟨by omega, by omega, by rw [take_at' dR k0 hc10, List.all_append, ka]; simp only [List.all_cons, hc11, List.all_nil, Bool.and_true]⟩
    · try dsimp only
      omega
  try simp only [sk] at hc10
  refine CW.exit (Q.te (Q.te (Q.bx (Q.tn ?_))))
  refine CW.seq ?_
  refine CW.region ?_
  refine W.p O.as ?_
  refine WL.nil (Q.tn ?_)
  refine CW.ret ?_
  refine ⟨_, [], (RVs.tmp rfl RVs.nil), List.nil_sublist _, ?_⟩
  have hll := lbls_len hnz
  rw [List.take_of_length_le (by omega)] at ha hd ga gc gd ka
  have hyes : cfMay c = true := by rw [cf_pre, hA, exOk, rvOk, ha, decide_eq_true hd, ga, decide_eq_true gc, decide_eq_true gd, ka, decide_eq_true (show (labs c.zone).length ≤ 4 by omega), decide_eq_true (show c.stat.length ≤ 8 by omega)]; rfl
  rw [hyes]; exact ⟨rfl, rfl⟩
theorem ref_ConfMay (c : Cf) (e r s : Sl2) (w : World) (h : CfIn w c e r s) (hz : CfSz c) : Fn Tryd.prog 49 [vCf c e r s] w [] fun v L' => v = .bool (cfMay c) ∧ L' = [] := by
  cases hq : cfPre c with
  | false => exact ref_ConfB c e r s w h hz hq
  | true => exact ref_ConfA c e r s w h hz hq
end Go.Proofs.YtagiajnpnjakhaaDoor
