/- What dns.in, flag, bits, head and May come to. Conditions: the rows are not longer than a thousand millions, the texts not than some 2^47 bytes. -/
import Derived.Test.YtkjcmdgideddnaaPDns
import Derived.Test.YtkjcmdgideddnaaRr
import Derived.Test.YtkjcmdgideddnaaCell
set_option linter.unusedVariables false
set_option linter.unusedSimpArgs false
namespace Go.Proofs.Ytkjcmdgideddnaa
open Go Go.RowKit
abbrev Sl := Option Addr × Nat
abbrev encDn (m : Dn) (q a s d : Sl) : List Value := [.int .i64 m.id, .bool m.resp, .int .i64 m.op, .bool m.auth, .bool m.trunc, .bool m.recu, .int .i64 m.code, .slice q.1 m.qs.length q.2, .slice a.1 m.an.length a.2, .slice s.1 m.se.length s.2, .slice d.1 m.ad.length d.2, .int .i64 m.size]
abbrev vDn (m : Dn) (q a s d : Sl) : Value := .agg (encDn m q a s d).toArray
abbrev nS : Sl := (none, 0)
abbrev encSl : (Option Addr × Nat × Nat) → List Value := fun p => [.slice p.1 p.2.1 p.2.2]
abbrev dSl : Option Addr × Nat × Nat := (none, 0, 0)
instance : Enc encSl 1 dSl := ⟨fun _ => rfl, by decide⟩
instance : EncOne encSl := ⟨fun x u hu => by simp at hu; subst hu; rfl⟩
/-- the rows of a message that can be read -/
structure DnIn (w : World) (m : Dn) (q a s d : Sl) : Prop where
  hq : In w q.1 (m.qs.flatMap encQ)
  ha : In w a.1 (m.an.flatMap encR)
  hs : In w s.1 (m.se.flatMap encR)
  hd : In w d.1 (m.ad.flatMap encR)
def NmB (rs : List RR) (B : Nat) : Prop := ∀ r ∈ rs, r.name.length ≤ B ∧ r.target.length ≤ B
structure DnSz (m : Dn) (B : Nat) : Prop where
  hq : m.qs.length ≤ 1048576 ∧ ∀ q ∈ m.qs, q.name.length ≤ B
  ha : m.an.length ≤ 1048576 ∧ NmB m.an B
  hs : m.se.length ≤ 1048576 ∧ NmB m.se B
  hd : m.ad.length ≤ 1048576 ∧ NmB m.ad B
theorem In.upd {w w' : World} {L L0 : Heap} {a : Option Addr} {cs : List Value} (h : In w a cs) (hw : Upd w [] w' L) : In w' a cs := (h.lies.step hw (List.nil_sublist _)).in
theorem DnIn.upd {w w' : World} {L : Heap} {m : Dn} {q a s d : Sl} (h : DnIn w m q a s d) (hw : Upd w [] w' L) : DnIn w' m q a s d := ⟨h.hq.upd (L0 := []) hw, h.ha.upd (L0 := []) hw, h.hs.upd (L0 := []) hw, h.hd.upd (L0 := []) hw⟩
theorem dn_cell {w : World} {b i : Nat} {cs : List Value} {v : Value} (h : In w (some ⟨b, 0, none⟩) cs) (hi : cs[i]? = some v) : In w (some ⟨b, i, none⟩) [v] := by
  rcases h with h | ⟨b', o, arr, U, fz, he, hb, hc⟩
  · subst h; cases hi
  · cases he
    refine .inr ⟨b, i, arr, U, fz, rfl, hb, fun k hk => ?_⟩
    have hk0 : k = 0 := by simpa using hk
    subst hk0
    have := hc i (List.getElem?_eq_some_iff.1 hi).1
    simp only [Nat.zero_add] at this
    simpa [hi] using this
theorem dn_cells {w w' : World} {L : Heap} {b i : Nat} {cs : List Value} {v : Value} (h : In w (some ⟨b, 0, none⟩) cs) (hi : cs[i]? = some v) : Cell w [] L ⟨b, i, none⟩ v := ⟨fun w' hw => ((dn_cell h hi).lies.step hw (List.nil_sublist _)).in⟩
set_option maxRecDepth 100000 in
theorem dn_in (x f t : Int) (w : World) : Fn Try.prog 134 [.int .i64 x, .int .i64 f, .int .i64 t] w [] fun v L' => v = .bool (inR x f t) ∧ L' = [] := by
  refine Fn.enter Try.func134 rfl rfl rfl rfl (Holds.nil w) ?_
  refine CW.seq ?_
  refine CW.region ?_
  refine W.p O.as ?_
  refine WL.nil (Q.tn ?_)
  refine CW.seq ?_
  refine CW.region ?_
  refine W.p O.mv ?_
  refine W.p O.mv ?_
  refine W.p O.geq ?_
  refine W.p O.mv ?_
  refine W.p O.mv ?_
  refine W.p O.mv ?_
  refine W.p O.leq ?_
  refine W.p O.pkB ?_
  refine W.p O.as ?_
  refine WL.nil (Q.tn ?_)
  refine CW.ret ?_
  refine ⟨_, [], (RVs.tmp rfl RVs.nil), List.nil_sublist _, ?_⟩
  refine ⟨congrArg Value.bool ?_, rfl⟩
  rw [inR]; cases decide (f ≤ x) <;> rfl
set_option maxRecDepth 100000 in
theorem dn_flag (b : Bool) (x : Int) (w : World) : Fn Try.prog 166 [.bool b, .int .i64 x] w [] fun v L' => v = .int .i64 (flg b x) ∧ L' = [] := by
  refine Fn.enter Try.func166 rfl rfl rfl rfl (Holds.nil w) ?_
  refine CW.seq ?_
  refine CW.region ?_
  refine W.p O.as ?_
  refine WL.nil (Q.tn ?_)
  refine CW.seq ?_
  refine CW.seq ?_
  refine CW.region ?_
  refine W.p O.mv ?_
  refine WL.nil (Q.tn ?_)
  refine CW.cond (vt rfl) (fun hc1 => ?_) (fun hc1 => ?_)
  · try simp only [sk] at hc1
    refine CW.seq ?_
    refine CW.region ?_
    refine W.p O.mv ?_
    refine W.p O.as ?_
    refine WL.nil (Q.tn ?_)
    refine CW.ret (Q.tr ?_)
    refine ⟨_, [], (RVs.tmp rfl RVs.nil), List.nil_sublist _, ?_⟩
    refine ⟨?_, rfl⟩
    rw [show b = true from hc1]; rfl
  try simp only [sk] at hc1
  refine CW.skip (Q.tn ?_)
  refine CW.seq ?_
  refine CW.region ?_
  refine W.p O.as ?_
  refine WL.nil (Q.tn ?_)
  refine CW.ret ?_
  refine ⟨_, [], (RVs.tmp rfl RVs.nil), List.nil_sublist _, ?_⟩
  refine ⟨?_, rfl⟩
  rw [show b = false from hc1]; rfl
theorem or_fin : ∀ (r a t c : Bool) (o d : Fin 16), bits .or .i64 (bits .or .i64 (bits .or .i64 (bits .or .i64 (bits .or .i64 (flg r 32768) (IntKind.i64.wrap (((o.val : Nat) : Int) * 2 ^ (11 : Int).toNat))) (flg a 1024)) (flg t 512)) (flg c 256)) ((d.val : Nat) : Int) = flg r 32768 + ((o.val : Nat) : Int) * 2048 + flg a 1024 + flg t 512 + flg c 256 + ((d.val : Nat) : Int) := by decide +kernel
theorem or_d {m : Dn} (ho : 0 ≤ m.op ∧ m.op ≤ 15) (hc : 0 ≤ m.code ∧ m.code ≤ 15) : bits .or .i64 (bits .or .i64 (bits .or .i64 (bits .or .i64 (bits .or .i64 (flg m.resp 32768) (IntKind.i64.wrap (m.op * 2 ^ (11 : Int).toNat))) (flg m.auth 1024)) (flg m.trunc 512)) (flg m.recu 256)) m.code = dBits m := by
  have := or_fin m.resp m.auth m.trunc m.recu ⟨m.op.toNat, by omega⟩ ⟨m.code.toNat, by omega⟩
  dsimp only at this
  rw [Int.toNat_of_nonneg ho.1, Int.toNat_of_nonneg hc.1] at this
  exact this
set_option maxRecDepth 100000 in
theorem dn_bits {b : Nat} (m : Dn) (q a s d : Sl) (w : World) (h : In w (some ⟨b, 0, none⟩) (encDn m q a s d)) (ho : 0 ≤ m.op ∧ m.op ≤ 15) (hc : 0 ≤ m.code ∧ m.code ≤ 15) : Fn Try.prog 167 [.pointer (some ⟨b, 0, none⟩)] w [] fun v L' => v = .int .i64 (dBits m) ∧ L' = [] := by
  have c1 : ∀ {L : Heap}, Cell w [] L ⟨b, 1, none⟩ (.bool m.resp) := fun {L} => dn_cells (w' := w) h rfl
  have c2 : ∀ {L : Heap}, Cell w [] L ⟨b, 2, none⟩ (.int .i64 m.op) := fun {L} => dn_cells (w' := w) h rfl
  have c3 : ∀ {L : Heap}, Cell w [] L ⟨b, 3, none⟩ (.bool m.auth) := fun {L} => dn_cells (w' := w) h rfl
  have c4 : ∀ {L : Heap}, Cell w [] L ⟨b, 4, none⟩ (.bool m.trunc) := fun {L} => dn_cells (w' := w) h rfl
  have c5 : ∀ {L : Heap}, Cell w [] L ⟨b, 5, none⟩ (.bool m.recu) := fun {L} => dn_cells (w' := w) h rfl
  have c6 : ∀ {L : Heap}, Cell w [] L ⟨b, 6, none⟩ (.int .i64 m.code) := fun {L} => dn_cells (w' := w) h rfl
  refine Fn.enter Try.func167 rfl rfl rfl rfl (Holds.nil w) ?_
  refine CW.seq ?_
  refine CW.region ?_
  refine W.p O.as ?_
  refine WL.nil (Q.tn ?_)
  refine CW.seq ?_
  refine CW.draw 35 rfl (by kernel_rfl) ?_
  refine WQ.p O.mv ?_
  refine WQ.p O.nc ?_
  first | refine WQ.p O.fb ?_ | refine WQ.p O.fa ?_
  first | refine WQ.p O.ld ?_ | refine WQ.p O.ldC ?_
  refine WQ.q (O.call ⟨rfl, rfl⟩ (AV.cons (vt rfl) (AV.cons (vt rfl) (AV.nil))) (fun _ w hw => dn_flag _ _ w)) ?_
  refine WQ.p O.mv ?_
  refine WQ.p O.nc ?_
  first | refine WQ.p O.fb ?_ | refine WQ.p O.fa ?_
  first | refine WQ.p O.ld ?_ | refine WQ.p O.ldC ?_
  refine WQ.p O.shl ?_
  refine WQ.p O.or ?_
  refine WQ.p O.mv ?_
  refine WQ.p O.nc ?_
  first | refine WQ.p O.fb ?_ | refine WQ.p O.fa ?_
  first | refine WQ.p O.ld ?_ | refine WQ.p O.ldC ?_
  refine WQ.q (O.call ⟨rfl, rfl⟩ (AV.cons (vt rfl) (AV.cons (vt rfl) (AV.nil))) (fun _ w hw => dn_flag _ _ w)) ?_
  refine WQ.p O.or ?_
  refine WQ.p O.mv ?_
  refine WQ.p O.nc ?_
  first | refine WQ.p O.fb ?_ | refine WQ.p O.fa ?_
  first | refine WQ.p O.ld ?_ | refine WQ.p O.ldC ?_
  refine WQ.q (O.call ⟨rfl, rfl⟩ (AV.cons (vt rfl) (AV.cons (vt rfl) (AV.nil))) (fun _ w hw => dn_flag _ _ w)) ?_
  refine WQ.p O.or ?_
  refine WQ.p O.mv ?_
  refine WQ.p O.nc ?_
  first | refine WQ.p O.fb ?_ | refine WQ.p O.fa ?_
  first | refine WQ.p O.ld ?_ | refine WQ.p O.ldC ?_
  refine WQ.q (O.call ⟨rfl, rfl⟩ (AV.cons (vt rfl) (AV.cons (vt rfl) (AV.nil))) (fun _ w hw => dn_flag _ _ w)) ?_
  refine WQ.p O.or ?_
  refine WQ.p O.mv ?_
  refine WQ.p O.nc ?_
  first | refine WQ.p O.fb ?_ | refine WQ.p O.fa ?_
  first | refine WQ.p O.ld ?_ | refine WQ.p O.ldC ?_
  refine WQ.p O.or ?_
  refine WQ.p O.as ?_
  refine WQ.nil ?_
  refine WL.nil (Q.tn ?_)
  refine CW.ret ?_
  refine ⟨_, [], (RVs.tmp rfl RVs.nil), List.nil_sublist _, ?_⟩
  refine ⟨congrArg (Value.int .i64) ?_, rfl⟩
  exact or_d ho hc
set_option maxRecDepth 100000 in
theorem dn_head (x : Int) (w : World) : Fn Try.prog 137 [.int .i64 x] w [] fun v L' => v = .tuple #[vDn (hdD x 0 [] [] [] [] 0) nS nS nS nS, .bool (decide (bits .and .i64 x 240 = 0))] ∧ L' = [] := by
  refine Fn.enter Try.func137 rfl rfl rfl rfl (Holds.nil w) ?_
  refine CW.seq ?_
  refine CW.region ?_
  refine W.al rfl rfl fun b1 => ?_
  refine W.p O.as ?_
  refine WL.nil (Q.tn ?_)
  refine CW.seq ?_
  refine CW.region ?_
  refine W.p O.mv ?_
  refine W.p O.and ?_
  refine W.p O.neI ?_
  refine W.p O.mv ?_
  refine W.p O.shr ?_
  refine W.p (O.andM 4 16 (h := by decide) (hq := by decide) (hM := by decide)) ?_
  refine W.p O.mv ?_
  refine W.p O.and ?_
  refine W.p O.neI ?_
  refine W.p O.mv ?_
  refine W.p O.and ?_
  refine W.p O.neI ?_
  refine W.p O.mv ?_
  refine W.p O.and ?_
  refine W.p O.neI ?_
  refine W.p O.mv ?_
  refine W.p (O.andM 4 16 (h := by decide) (hq := by decide) (hM := by decide)) ?_
  refine W.p (O.bd (hv := PV.cons (vt rfl) (PV.cons (vt rfl) (PV.cons (vt rfl) (PV.cons (vt rfl) (PV.cons (vt rfl) (PV.cons (vt rfl) (PV.nil)))))))) ?_
  refine W.al rfl rfl fun b2 => ?_
  refine W.st (vt rfl) (vt rfl) rfl ?_
  refine WL.nil (Q.tn ?_)
  refine CW.seq ?_
  refine CW.region ?_
  refine W.p O.lds ?_
  refine W.p O.mv ?_
  refine W.p O.and ?_
  refine W.p O.eqI ?_
  refine W.st (vt rfl) (vt rfl) rfl ?_
  refine W.p O.as ?_
  refine WL.nil (Q.tn ?_)
  refine CW.ret ?_
  refine ⟨_, [], (RVs.cell rfl (RVs.tmp rfl RVs.nil)), List.nil_sublist _, ?_⟩
  exact ⟨rfl, rfl⟩
set_option maxRecDepth 100000 in
theorem dn_odd (k : Qn') (w : World) (h : k.name.length ≤ 140737488355328) : Fn Try.prog 143 [.agg #[.string (S k.name), .int .i64 k.type]] w [] fun v L' => v = .bool (!qMay k) ∧ L' = [] := by
  refine Fn.enter Try.func143 rfl rfl rfl rfl (Holds.nil w) ?_
  refine CW.seq ?_
  refine CW.region ?_
  refine W.bx rfl (vt rfl) rfl fun b1 => ?_
  refine W.p O.as ?_
  refine WL.nil (Q.tn ?_)
  refine CW.seq ?_
  refine CW.region ?_
  first | refine W.p O.fb ?_ | refine W.p O.fa ?_
  refine W.p O.ld ?_
  refine W.q (O.call ⟨rfl, rfl⟩ (AV.cons (vt rfl) (AV.nil)) (fun _ w hw => nm_May _ w (by omega))) ?_
  refine W.p O.nt ?_
  refine W.p O.mv ?_
  first | refine W.p O.fb ?_ | refine W.p O.fa ?_
  refine W.p O.ld ?_
  refine W.q (O.call ⟨rfl, rfl⟩ (AV.cons (vs rfl) (AV.cons (vt rfl) (AV.cons (vt rfl) (AV.nil)))) (fun _ w hw => dn_in _ _ _ w)) ?_
  refine W.p O.nt ?_
  refine W.p O.pkB ?_
  refine W.p O.as ?_
  refine WL.nil (Q.tn ?_)
  refine CW.ret ?_
  refine ⟨_, [], (RVs.tmp rfl RVs.nil), List.nil_sublist _, ?_⟩
  refine ⟨congrArg Value.bool ?_, rfl⟩
  rw [qMay]; cases nmMay k.name <;> simp [oneOr]
set_option maxRecDepth 100000 in
theorem dn_bad (k : RR) (w : World) (h : k.name.length ≤ 140737488355328) (h2 : k.target.length ≤ 140737488355328) : Fn Try.prog 144 [vR k] w [] fun v L' => v = .bool (!rrMay k) ∧ L' = [] := by
  refine Fn.enter Try.func144 rfl rfl rfl rfl (Holds.nil w) ?_
  refine CW.seq ?_
  refine CW.region ?_
  refine W.bx rfl (vt rfl) rfl fun b1 => ?_
  refine W.p O.as ?_
  refine WL.nil (Q.tn ?_)
  refine CW.seq ?_
  refine CW.region ?_
  refine W.p O.lds ?_
  refine W.q (O.call ⟨rfl, rfl⟩ (AV.cons (vt rfl) (AV.nil)) (fun _ w hw => rr_May k w (by omega) (by omega))) ?_
  refine W.p O.nt ?_
  refine W.p O.as ?_
  refine WL.nil (Q.tn ?_)
  refine CW.ret ?_
  refine ⟨_, [], (RVs.tmp rfl RVs.nil), List.nil_sublist _, ?_⟩
  exact ⟨rfl, rfl⟩
theorem any_upL {α : Type} {f : α → Bool} {d : α} {xs : List α} {i : Int} (h0 : 0 ≤ i) (h1 : i < xs.length) : (xs.take (i + 1).toNat).any f = ((xs.take i.toNat).any f || f (xs.getD i.toNat d)) := by
  rw [take_at' d h0 h1, List.any_append]; simp
theorem any_at {α : Type} {f : α → Bool} {d : α} {xs : List α} {i : Int} (h0 : 0 ≤ i) (h1 : i < xs.length) (h : f (xs.getD i.toNat d) = true) : xs.any f = true :=
  List.any_eq_true.2 ⟨_, mem_at d h0 h1, h⟩
set_option maxRecDepth 100000 in
theorem ix_DR (xs : List RR) (a : Option Addr) (c : Nat) (w : World) (h : In w a (xs.flatMap encR)) (hn : xs.length ≤ 1000000000) (hk : ∀ k ∈ xs, k.name.length ≤ 140737488355328 ∧ k.target.length ≤ 140737488355328) :
    Fn Try.prog 172 [.slice a xs.length c, .func (.func 144) #[] #[]] w [] fun v L' => ∃ k : Int, v = .int .i64 k ∧ L' = [] ∧ decide (0 ≤ k) = xs.any (fun x => !rrMay x) := by
  have row := Row.ofE h
  refine Fn.enter Try.func172 rfl rfl rfl rfl (Holds.nil w) ?_
  refine CW.seq ?_
  refine CW.region ?_
  refine W.p O.as ?_
  refine WL.nil (Q.tn ?_)
  refine CW.seq ?_
  refine CW.seq ?_
  refine CW.region ?_
  refine W.p O.mv ?_
  refine W.p O.lenL ?_
  refine W.p O.mv ?_
  refine WL.nil (Q.tn ?_)
  refine CW.block ?_
  refine CW.loopA (X := Int) (fun i => [(0, true, .slice a xs.length c), (1, true, .func (.func 144) #[] #[]), (7, true, .int .i64 xs.length), (8, true, .int .i64 i)]) (fun i => []) (fun i => 0 ≤ i ∧ i ≤ xs.length ∧ (xs.take i.toNat).any (fun x => !rrMay x) = false) (fun i => (xs.length - i).toNat) (0) ?_ ?_
  · exact ⟨by omega, by omega, rfl⟩
  rintro i hI
  try dsimp only at hI ⊢
  obtain ⟨h0, h1, hr⟩ := hI
  refine CW.seq ?_
  refine CW.region ?_
  refine W.p O.lss ?_
  refine WL.nil (Q.tn ?_)
  refine CW.seq ?_
  refine CW.cond (vt rfl) (fun hc1 => ?_) (fun hc1 => ?_)
  · try simp only [sk] at hc1
    refine CW.skip (Q.tn ?_)
    refine CW.seq ?_
    refine CW.block ?_
    refine CW.seq ?_
    refine CW.region ?_
    refine W.p O.mv ?_
    refine W.p O.as ?_
    refine WL.nil (Q.tn ?_)
    refine CW.seq ?_
    refine CW.region ?_
    refine W.p O.mv ?_
    refine W.p O.mv ?_
    refine W.p O.mv ?_
    refine W.p O.ixA ?_
    refine W.p O.ldsE ?_
    refine W.callN (first := []) (cap := []) rfl (vt rfl) (AV.cons (vt rfl) (AV.nil)) (fun w hu => dn_bad (xs.getD i.toNat dR) w (hk _ (mem_at dR h0 hc1)).1 (hk _ (mem_at dR h0 hc1)).2) ?_; rintro _ _ ⟨rfl, rfl⟩
    refine WL.nil (Q.tn ?_)
    refine CW.cond (vt rfl) (fun hc2 => ?_) (fun hc2 => ?_)
    · try simp only [sk] at hc2
      refine CW.seq ?_
      refine CW.region ?_
      refine W.p O.mv ?_
      refine W.p O.as ?_
      refine WL.nil (Q.tn ?_)
      refine CW.ret (Q.br (Q.tr (Q.tr (Q.br (Q.tr ?_)))))
      refine ⟨_, [], (RVs.tmp rfl RVs.nil), List.nil_sublist _, ?_⟩
      refine ⟨i, rfl, rfl, ?_⟩
      rw [decide_eq_true h0, any_at (d := dR) h0 hc1 (by rw [hc2]; rfl)]
    try simp only [sk] at hc2
    refine CW.skip (Q.bn (Q.tn ?_))
    refine CW.region ?_
    first | refine W.p O.addN ?_ | refine W.p O.add ?_
    refine W.p O.mv ?_
    refine WL.nil (Q.tn ?_)
    refine nextA (_) ?_ ?_
    · try dsimp only
      exact ⟨by omega, by omega, by rw [any_upL (d := dR) h0 hc1, hr, hc2]; rfl⟩
    · try dsimp only
      omega
  try simp only [sk] at hc1
  refine CW.exit (Q.te (Q.te (Q.bx (Q.tn ?_))))
  refine CW.seq ?_
  refine CW.region ?_
  refine W.p O.as ?_
  refine WL.nil (Q.tn ?_)
  refine CW.ret ?_
  refine ⟨_, [], (RVs.tmp rfl RVs.nil), List.nil_sublist _, ?_⟩
  refine ⟨-1, rfl, rfl, ?_⟩
  have e : xs.take i.toNat = xs := List.take_of_length_le (by omega)
  rw [e] at hr; rw [hr]; rfl
set_option maxRecDepth 100000 in
theorem cf_DR (xs : List RR) (n : Nat) (a : Option Addr) (c : Nat) (w : World) (h : In w a (xs.flatMap encR)) (hx : n = xs.length) (hn : xs.length ≤ 1000000000) (hk : ∀ k ∈ xs, k.name.length ≤ 140737488355328 ∧ k.target.length ≤ 140737488355328) :
    Fn Try.prog 145 [.slice a n c, .func (.func 144) #[] #[]] w [] fun v L' => v = .bool (xs.any (fun x => !rrMay x)) ∧ L' = [] := by
  subst hx
  have row := Row.ofE h
  refine Fn.enter Try.func145 rfl rfl rfl rfl (Holds.nil w) ?_
  refine CW.seq ?_
  refine CW.region ?_
  refine W.p O.as ?_
  refine WL.nil (Q.tn ?_)
  refine CW.seq ?_
  refine CW.region ?_
  refine W.p O.mv ?_
  refine W.p O.mv ?_
  refine W.callN (first := []) (cap := []) rfl (vt rfl) (AV.cons (vt rfl) (AV.cons (vt rfl) (AV.nil))) (fun w hu => ix_DR xs _ _ w (row.h _ w hu) (by omega) hk) ?_; rintro _ _ ⟨k, rfl, rfl, hk2⟩
  refine W.p O.geq ?_
  refine W.p O.as ?_
  refine WL.nil (Q.tn ?_)
  refine CW.ret ?_
  refine ⟨_, [], (RVs.tmp rfl RVs.nil), List.nil_sublist _, ?_⟩
  rw [← hk2]; exact ⟨rfl, rfl⟩
set_option maxRecDepth 100000 in
theorem ix_DQ (xs : List Qn') (a : Option Addr) (c : Nat) (w : World) (h : In w a (xs.flatMap encQ)) (hn : xs.length ≤ 1000000000) (hk : ∀ k ∈ xs, k.name.length ≤ 140737488355328) :
    Fn Try.prog 173 [.slice a xs.length c, .func (.func 143) #[] #[]] w [] fun v L' => ∃ k : Int, v = .int .i64 k ∧ L' = [] ∧ decide (0 ≤ k) = xs.any (fun x => !qMay x) := by
  have row := Row.ofE h
  refine Fn.enter Try.func173 rfl rfl rfl rfl (Holds.nil w) ?_
  refine CW.seq ?_
  refine CW.region ?_
  refine W.p O.as ?_
  refine WL.nil (Q.tn ?_)
  refine CW.seq ?_
  refine CW.seq ?_
  refine CW.region ?_
  refine W.p O.mv ?_
  refine W.p O.lenL ?_
  refine W.p O.mv ?_
  refine WL.nil (Q.tn ?_)
  refine CW.block ?_
  refine CW.loopA (X := Int) (fun i => [(0, true, .slice a xs.length c), (1, true, .func (.func 143) #[] #[]), (7, true, .int .i64 xs.length), (8, true, .int .i64 i)]) (fun i => []) (fun i => 0 ≤ i ∧ i ≤ xs.length ∧ (xs.take i.toNat).any (fun x => !qMay x) = false) (fun i => (xs.length - i).toNat) (0) ?_ ?_
  · exact ⟨by omega, by omega, rfl⟩
  rintro i hI
  try dsimp only at hI ⊢
  obtain ⟨h0, h1, hr⟩ := hI
  refine CW.seq ?_
  refine CW.region ?_
  refine W.p O.lss ?_
  refine WL.nil (Q.tn ?_)
  refine CW.seq ?_
  refine CW.cond (vt rfl) (fun hc1 => ?_) (fun hc1 => ?_)
  · try simp only [sk] at hc1
    refine CW.skip (Q.tn ?_)
    refine CW.seq ?_
    refine CW.block ?_
    refine CW.seq ?_
    refine CW.region ?_
    refine W.p O.mv ?_
    refine W.p O.as ?_
    refine WL.nil (Q.tn ?_)
    refine CW.seq ?_
    refine CW.region ?_
    refine W.p O.mv ?_
    refine W.p O.mv ?_
    refine W.p O.mv ?_
    refine W.p O.ixA ?_
    refine W.p O.ldsE ?_
    refine W.callN (first := []) (cap := []) rfl (vt rfl) (AV.cons (vt rfl) (AV.nil)) (fun w hu => dn_odd (xs.getD i.toNat dQ) w (hk _ (mem_at dQ h0 hc1))) ?_; rintro _ _ ⟨rfl, rfl⟩
    refine WL.nil (Q.tn ?_)
    refine CW.cond (vt rfl) (fun hc2 => ?_) (fun hc2 => ?_)
    · try simp only [sk] at hc2
      refine CW.seq ?_
      refine CW.region ?_
      refine W.p O.mv ?_
      refine W.p O.as ?_
      refine WL.nil (Q.tn ?_)
      refine CW.ret (Q.br (Q.tr (Q.tr (Q.br (Q.tr ?_)))))
      refine ⟨_, [], (RVs.tmp rfl RVs.nil), List.nil_sublist _, ?_⟩
      refine ⟨i, rfl, rfl, ?_⟩
      rw [decide_eq_true h0, any_at (d := dQ) h0 hc1 (by rw [hc2]; rfl)]
    try simp only [sk] at hc2
    refine CW.skip (Q.bn (Q.tn ?_))
    refine CW.region ?_
    first | refine W.p O.addN ?_ | refine W.p O.add ?_
    refine W.p O.mv ?_
    refine WL.nil (Q.tn ?_)
    refine nextA (_) ?_ ?_
    · try dsimp only
      exact ⟨by omega, by omega, by rw [any_upL (d := dQ) h0 hc1, hr, hc2]; rfl⟩
    · try dsimp only
      omega
  try simp only [sk] at hc1
  refine CW.exit (Q.te (Q.te (Q.bx (Q.tn ?_))))
  refine CW.seq ?_
  refine CW.region ?_
  refine W.p O.as ?_
  refine WL.nil (Q.tn ?_)
  refine CW.ret ?_
  refine ⟨_, [], (RVs.tmp rfl RVs.nil), List.nil_sublist _, ?_⟩
  refine ⟨-1, rfl, rfl, ?_⟩
  have e : xs.take i.toNat = xs := List.take_of_length_le (by omega)
  rw [e] at hr; rw [hr]; rfl
set_option maxRecDepth 100000 in
theorem cf_DQ (xs : List Qn') (n : Nat) (a : Option Addr) (c : Nat) (w : World) (h : In w a (xs.flatMap encQ)) (hx : n = xs.length) (hn : xs.length ≤ 1000000000) (hk : ∀ k ∈ xs, k.name.length ≤ 140737488355328) :
    Fn Try.prog 146 [.slice a n c, .func (.func 143) #[] #[]] w [] fun v L' => v = .bool (xs.any (fun x => !qMay x)) ∧ L' = [] := by
  subst hx
  have row := Row.ofE h
  refine Fn.enter Try.func146 rfl rfl rfl rfl (Holds.nil w) ?_
  refine CW.seq ?_
  refine CW.region ?_
  refine W.p O.as ?_
  refine WL.nil (Q.tn ?_)
  refine CW.seq ?_
  refine CW.region ?_
  refine W.p O.mv ?_
  refine W.p O.mv ?_
  refine W.callN (first := []) (cap := []) rfl (vt rfl) (AV.cons (vt rfl) (AV.cons (vt rfl) (AV.nil))) (fun w hu => ix_DQ xs _ _ w (row.h _ w hu) (by omega) hk) ?_; rintro _ _ ⟨k, rfl, rfl, hk2⟩
  refine W.p O.geq ?_
  refine W.p O.as ?_
  refine WL.nil (Q.tn ?_)
  refine CW.ret ?_
  refine ⟨_, [], (RVs.tmp rfl RVs.nil), List.nil_sublist _, ?_⟩
  rw [← hk2]; exact ⟨rfl, rfl⟩
theorem any_not {α : Type} {f : α → Bool} {xs : List α} : xs.any (fun x => !f x) = !xs.all f := by
  induction xs with
  | nil => rfl
  | cons x l ih => simp only [List.any_cons, List.all_cons, ih]; cases f x <;> rfl
set_option maxRecDepth 100000 in
theorem dn_May (m : Dn) (q a s d : Sl) (w : World) (h : DnIn w m q a s d) (hz : DnSz m 140737488355328) : Fn Try.prog 84 [vDn m q a s d] w [] fun v L' => v = .bool (dnMay m) ∧ L' = [] := by
  have hrow : ∀ i : Int, 0 ≤ i → i < 3 → In w (([(a.1, m.an.length, a.2), (s.1, m.se.length, s.2), (d.1, m.ad.length, d.2)] : List (Option Addr × Nat × Nat)).getD i.toNat dSl).1 ((([m.an, m.se, m.ad] : List (List RR)).getD i.toNat []).flatMap encR) ∧ (([(a.1, m.an.length, a.2), (s.1, m.se.length, s.2), (d.1, m.ad.length, d.2)] : List (Option Addr × Nat × Nat)).getD i.toNat dSl).2.1 = (([m.an, m.se, m.ad] : List (List RR)).getD i.toNat []).length ∧ (([m.an, m.se, m.ad] : List (List RR)).getD i.toNat []).length ≤ 1048576 ∧ NmB (([m.an, m.se, m.ad] : List (List RR)).getD i.toNat []) 140737488355328 := by
    intro i h0 h3
    rcases (by omega : i = 0 ∨ i = 1 ∨ i = 2) with rfl | rfl | rfl
    · exact ⟨h.ha, rfl, hz.ha⟩
    · exact ⟨h.hs, rfl, hz.hs⟩
    · exact ⟨h.hd, rfl, hz.hd⟩
  have hq2 := hz.hq.1
  refine Fn.enter Try.func84 rfl rfl rfl rfl (Holds.nil w) ?_
  refine CW.seq ?_
  refine CW.region ?_
  refine W.bx rfl (vt rfl) rfl fun b1 => ?_
  refine W.p O.as ?_
  refine WL.nil (Q.tn ?_)
  refine CW.seq ?_
  refine CW.region ?_
  refine W.p O.as ?_
  refine WL.nil (Q.tn ?_)
  refine CW.seq ?_
  refine CW.region ?_
  refine W.p O.as ?_
  refine WL.nil (Q.tn ?_)
  refine CW.seq ?_
  refine CW.seq ?_
  refine CW.region ?_
  first | refine W.p O.fb ?_ | refine W.p O.fa ?_
  refine W.p O.ld ?_
  first | refine W.p O.fb ?_ | refine W.p O.fa ?_
  refine W.p O.ld ?_
  first | refine W.p O.fb ?_ | refine W.p O.fa ?_
  refine W.p O.ld ?_
  refine W.bs encSl ([(a.1, m.an.length, a.2), (s.1, m.se.length, s.2), (d.1, m.ad.length, d.2)] : List (Option Addr × Nat × Nat)) rfl (PV.cons (vt rfl) (PV.cons (vt rfl) (PV.cons (vt rfl) (PV.nil)))) rfl rfl rfl (by decide) rfl fun b2 => ?_
  refine W.p O.lenL ?_
  refine W.p O.mv ?_
  refine WL.nil (Q.tn ?_)
  refine CW.block ?_
  refine CW.loopA (X := Int) (fun i => [(1, true, .pointer (some ⟨b1, 0, none⟩)), (3, true, .func (.func 143) #[] #[]), (4, true, .func (.func 144) #[] #[]), (13, true, .slice (some ⟨b2, 0, none⟩) 3 3), (14, true, .int .i64 3), (15, true, .int .i64 i)]) (fun i => [(b2, .cells (flat encSl ([(a.1, m.an.length, a.2), (s.1, m.se.length, s.2), (d.1, m.ad.length, d.2)] : List (Option Addr × Nat × Nat)) []).toArray 105 (0, 0)), (b1, .cells (encDn m q a s d).toArray 111 (0, 0))]) (fun i => 0 ≤ i ∧ i ≤ 3 ∧ ∀ j : Int, 0 ≤ j → j < i → rsMay (([m.an, m.se, m.ad] : List (List RR)).getD j.toNat []) = true) (fun i => (3 - i).toNat) (0) ?_ ?_
  · exact ⟨by omega, by omega, fun j h0 h1 => absurd h0 (by omega)⟩
  rintro i hI
  try dsimp only at hI ⊢
  obtain ⟨h0, h1, hr⟩ := hI
  refine CW.seq ?_
  refine CW.region ?_
  refine W.p O.lss ?_
  refine WL.nil (Q.tn ?_)
  refine CW.seq ?_
  refine CW.cond (vt rfl) (fun hc1 => ?_) (fun hc1 => ?_)
  · try simp only [sk] at hc1
    refine CW.skip (Q.tn ?_)
    refine CW.seq ?_
    refine CW.block ?_
    refine CW.seq ?_
    refine CW.region ?_
    refine W.p O.ixA ?_
    refine W.p O.ldE ?_
    refine W.p O.as ?_
    refine WL.nil (Q.tn ?_)
    refine CW.seq ?_
    refine CW.region ?_
    refine W.p O.mv ?_
    refine W.p O.lenL ?_
    refine W.p O.gtr ?_
    refine W.p O.mv ?_
    refine W.p O.mv ?_
    refine W.p O.mv ?_
    refine W.q (O.call ⟨rfl, rfl⟩ (AV.cons (vs rfl) (AV.cons (vs rfl) (AV.nil))) (fun _ w hw => cf_DR (([m.an, m.se, m.ad] : List (List RR)).getD i.toNat []) _ _ _ w ((hrow i h0 hc1).1.upd (L0 := []) hw) (hrow i h0 hc1).2.1 (by have := (hrow i h0 hc1).2.2.1; omega) (hrow i h0 hc1).2.2.2)) ?_
    refine W.p O.pkB ?_
    refine WL.nil (Q.tn ?_)
    refine CW.cond (vt rfl) (fun hc2 => ?_) (fun hc2 => ?_)
    · try simp only [sk] at hc2
      refine CW.seq ?_
      refine CW.region ?_
      refine W.p O.as ?_
      refine WL.nil (Q.tn ?_)
      refine CW.ret (Q.br (Q.tr (Q.tr (Q.br (Q.tr ?_)))))
      refine ⟨_, [], (RVs.tmp rfl RVs.nil), List.nil_sublist _, ?_⟩
      refine ⟨congrArg Value.bool ?_, rfl⟩
      have hno : rsMay (([m.an, m.se, m.ad] : List (List RR)).getD i.toNat []) = false := by rw [rsMay]; rcases hc2 with h | h; (rw [decide_eq_false (by have := (hrow i h0 hc1).2.1; omega)]; rfl); (rw [any_not] at h; rw [(Bool.not_eq_true' _).mp h, Bool.and_false])
      rcases (by omega : i = 0 ∨ i = 1 ∨ i = 2) with rfl | rfl | rfl
      · rw [dnMay, show rsMay m.an = false from hno]; rfl
      · rw [dnMay, show rsMay m.se = false from hno]; cases rsMay m.an <;> rfl
      · rw [dnMay, show rsMay m.ad = false from hno]; cases rsMay m.an <;> cases rsMay m.se <;> rfl
    try simp only [sk] at hc2
    refine CW.skip (Q.bn (Q.tn ?_))
    refine CW.region ?_
    first | refine W.p O.addN ?_ | refine W.p O.add ?_
    refine W.p O.mv ?_
    refine WL.nil (Q.tn ?_)
    refine nextA (_) ?_ ?_
    · try dsimp only
      refine ⟨by omega, by omega, fun j j0 j1 => ?_⟩
      rcases (by omega : j < i ∨ j = i) with hj | rfl
      · exact hr j j0 hj
      · have e := (hrow j h0 hc1).2.1
        have hc2' := hc2
        rw [any_not, Bool.not_eq_false'] at hc2'
        rw [rsMay, hc2'.2, decide_eq_true (by omega)]; rfl
    · try dsimp only
      omega
  try simp only [sk] at hc1
  refine CW.exit (Q.te (Q.te (Q.bx (Q.tn ?_))))
  refine CW.seq ?_
  refine CW.region ?_
  first | refine W.p O.fb ?_ | refine W.p O.fa ?_
  refine W.p O.ld ?_
  refine W.q (O.call ⟨rfl, rfl⟩ (AV.cons (vt rfl) (AV.cons (vt rfl) (AV.cons (vt rfl) (AV.nil)))) (fun _ w hw => dn_in _ _ _ w)) ?_
  refine W.p O.mv ?_
  first | refine W.p O.fb ?_ | refine W.p O.fa ?_
  refine W.p O.ld ?_
  refine W.q (O.call ⟨rfl, rfl⟩ (AV.cons (vs rfl) (AV.cons (vt rfl) (AV.cons (vt rfl) (AV.nil)))) (fun _ w hw => dn_in _ _ _ w)) ?_
  refine W.p O.pkB ?_
  refine W.p O.mv ?_
  first | refine W.p O.fb ?_ | refine W.p O.fa ?_
  refine W.p O.ld ?_
  refine W.q (O.call ⟨rfl, rfl⟩ (AV.cons (vs rfl) (AV.cons (vt rfl) (AV.cons (vt rfl) (AV.nil)))) (fun _ w hw => dn_in _ _ _ w)) ?_
  refine W.p O.pkB ?_
  refine W.p O.mv ?_
  first | refine W.p O.fb ?_ | refine W.p O.fa ?_
  refine W.p O.ld ?_
  refine W.p O.lenL ?_
  refine W.p O.leq ?_
  refine W.p O.pkB ?_
  refine W.p O.mv ?_
  first | refine W.p O.fb ?_ | refine W.p O.fa ?_
  refine W.p O.ld ?_
  refine W.p O.mv ?_
  refine W.q (O.call ⟨rfl, rfl⟩ (AV.cons (vs rfl) (AV.cons (vs rfl) (AV.nil))) (fun _ w hw => cf_DQ m.qs _ _ _ w (h.hq.upd (L0 := []) hw) rfl (by omega) hz.hq.2)) ?_
  refine W.p O.nt ?_
  refine W.p O.pkB ?_
  refine W.p O.mv ?_
  first | refine W.p O.fb ?_ | refine W.p O.fa ?_
  refine W.p O.ld ?_
  refine W.p O.eqI ?_
  refine W.p O.mv ?_
  first | refine W.p O.fb ?_ | refine W.p O.fa ?_
  refine W.p O.ld ?_
  refine W.q (O.call ⟨rfl, rfl⟩ (AV.cons (vs rfl) (AV.cons (vt rfl) (AV.cons (vt rfl) (AV.nil)))) (fun _ w hw => dn_in _ _ _ w)) ?_
  refine W.p O.pkB ?_
  refine W.p O.pkB ?_
  refine W.p O.as ?_
  refine WL.nil (Q.tn ?_)
  refine CW.ret ?_
  refine ⟨_, [], (RVs.tmp rfl RVs.nil), List.nil_sublist _, ?_⟩
  refine ⟨congrArg Value.bool ?_, rfl⟩
  have r0 : rsMay m.an = true := hr 0 (by omega) (by omega)
  have r1 : rsMay m.se = true := hr 1 (by omega) (by omega)
  have r2 : rsMay m.ad = true := hr 2 (by omega) (by omega)
  rw [dnMay, r0, r1, r2, any_not, show decide ((m.qs.length : Int) ≤ 4) = decide (m.qs.length ≤ 4) from decide_eq_decide.2 (by omega)]
  generalize inR m.id 0 65535 = x1; generalize inR m.op 0 15 = x2; generalize inR m.code 0 15 = x3; generalize decide (m.qs.length ≤ 4) = x4; generalize m.qs.all qMay = x5; generalize decide (m.size = 0) = x6; generalize inR m.size 512 65535 = x7
  cases x1 <;> cases x2 <;> cases x3 <;> cases x4 <;> cases x5 <;> cases x6 <;> cases x7 <;> rfl
end Go.Proofs.Ytkjcmdgideddnaa
