/- Several texts in one (DnA). Their conditions are their own. -/
import Derived.Test.YtfmdaijkgjkmpaaGreatDoorPDns
import Derived.Test.YtfmdaijkgjkmpaaGreatDoorRr
import Derived.Test.YtfmdaijkgjkmpaaGreatDoorLaw0
import Derived.Test.YtfmdaijkgjkmpaaGreatDoorRrPen
set_option linter.unusedVariables false
set_option linter.unusedSimpArgs false
namespace Go.Proofs.YtfmdaijkgjkmpaaGreatDoor
open Go Go.RowKit
abbrev Sl := Option Addr × Nat
abbrev encDn (m : Dn) (q a s d : Sl) : List Value := [.int .i64 m.id, .bool m.resp, .int .i64 m.op, .bool m.auth, .bool m.trunc, .bool m.recu, .int .i64 m.code, .slice q.1 m.qs.length q.2, .slice a.1 m.an.length a.2, .slice s.1 m.se.length s.2, .slice d.1 m.ad.length d.2, .int .i64 m.size]
abbrev vDn (m : Dn) (q a s d : Sl) : Value := .agg (encDn m q a s d).toArray
abbrev nS : Sl := (none, 0)
abbrev encSl : (Option Addr × Nat × Nat) → List Value := fun p => [.slice p.1 p.2.1 p.2.2]
abbrev dSl : Option Addr × Nat × Nat := (none, 0, 0)
instance : Enc encSl 1 dSl := ⟨fun _ => rfl, by decide⟩
instance : EncOne encSl := ⟨fun x u hu => by simp at hu; subst hu; rfl⟩
/-- the rows of a message that can be read -/
structure DnIn (w : World) (m : Dn) (q a s d : Sl) : Prop where
 hq : In w q.1 (m.qs.flatMap encQ)
 ha : In w a.1 (m.an.flatMap encR)
 hs : In w s.1 (m.se.flatMap encR)
 hd : In w d.1 (m.ad.flatMap encR)
def NmB (rs : List RR) (B : Nat) : Prop := ∀ r ∈ rs, r.name.length ≤ B ∧ r.target.length ≤ B
structure DnSz (m : Dn) (B : Nat) : Prop where
 hq : m.qs.length ≤ 1048576 ∧ ∀ q ∈ m.qs, q.name.length ≤ B
 ha : m.an.length ≤ 1048576 ∧ NmB m.an B
 hs : m.se.length ≤ 1048576 ∧ NmB m.se B
 hd : m.ad.length ≤ 1048576 ∧ NmB m.ad B
theorem DnIn.upd {w w' : World} {L : Heap} {m : Dn} {q a s d : Sl} (h : DnIn w m q a s d) (hw : Upd w [] w' L) : DnIn w' m q a s d := ⟨h.hq.upd (L0 := []) hw, h.ha.upd (L0 := []) hw, h.hs.upd (L0 := []) hw, h.hd.upd (L0 := []) hw⟩
theorem dn_cell {w : World} {b i : Nat} {cs : List Value} {v : Value} (h : In w (some ⟨b, 0, none⟩) cs) (hi : cs[i]? = some v) : In w (some ⟨b, i, none⟩) [v] := by
 rcases h with h | ⟨b', o, arr, U, fz, he, hb, hc⟩
 ·subst h; cases hi
 ·cases he
  refine .inr ⟨b, i, arr, U, fz, rfl, hb, fun k hk => ?_⟩
  have hk0 : k = 0 := by simpa using hk
  subst hk0
  have := hc i (List.getElem?_eq_some_iff.1 hi).1
  simp only [Nat.zero_add] at this
  simpa [hi] using this
theorem dn_cells {w w' : World} {L : Heap} {b i : Nat} {cs : List Value} {v : Value} (h : In w (some ⟨b, 0, none⟩) cs) (hi : cs[i]? = some v) : Cell w [] L ⟨b, i, none⟩ v := ⟨fun w' hw => ((dn_cell h hi).lies.step hw (List.nil_sublist _)).in⟩
set_option maxRecDepth 100000 in
theorem dn_in (x f t : Int) (w : World) : Fn Tryz.prog 75 [.int .i64 x, .int .i64 f, .int .i64 t] w [] fun v L' => v = .bool (inR x f t) ∧ L' = [] := by
 refine Fn.enter Tryz.func75 rfl rfl rfl rfl (Holds.nil w) ?_
 refine W.go ?_
 refine ⟨_, [], (RVs.tmp rfl RVs.nil), List.nil_sublist _, ?_⟩
 refine ⟨congrArg Value.bool ?_, rfl⟩
 rw [inR]; cases decide (f ≤ x) <;> rfl
set_option maxRecDepth 100000 in
theorem dn_flag (b : Bool) (x : Int) (w : World) : Fn Tryz.prog 111 [.bool b, .int .i64 x] w [] fun v L' => v = .int .i64 (flg b x) ∧ L' = [] := by
 refine Fn.enter Tryz.func111 rfl rfl rfl rfl (Holds.nil w) ?_
 refine W.go ?_
 refine CW.cond (vt rfl) (fun hc1 => ?_) (fun hc1 => ?_)
 ·try simp only [sk] at hc1
  refine W.go ?_
  refine ⟨_, [], (RVs.tmp rfl RVs.nil), List.nil_sublist _, ?_⟩
  refine ⟨?_, rfl⟩
  rw [show b = true from hc1]; rfl
 try simp only [sk] at hc1
 refine W.go ?_
 refine ⟨_, [], (RVs.tmp rfl RVs.nil), List.nil_sublist _, ?_⟩
 refine ⟨?_, rfl⟩
 rw [show b = false from hc1]; rfl
theorem or_fin : ∀ (r a t c : Bool) (o d : Fin 16), bits .or .i64 (bits .or .i64 (bits .or .i64 (bits .or .i64 (bits .or .i64 (flg r 32768) (IntKind.i64.wrap (((o.val : Nat) : Int) * 2 ^ (11 : Int).toNat))) (flg a 1024)) (flg t 512)) (flg c 256)) ((d.val : Nat) : Int) = flg r 32768 + ((o.val : Nat) : Int) * 2048 + flg a 1024 + flg t 512 + flg c 256 + ((d.val : Nat) : Int) := by decide +kernel
theorem or_d {m : Dn} (ho : 0 ≤ m.op ∧ m.op ≤ 15) (hc : 0 ≤ m.code ∧ m.code ≤ 15) : bits .or .i64 (bits .or .i64 (bits .or .i64 (bits .or .i64 (bits .or .i64 (flg m.resp 32768) (IntKind.i64.wrap (m.op * 2 ^ (11 : Int).toNat))) (flg m.auth 1024)) (flg m.trunc 512)) (flg m.recu 256)) m.code = dBits m := by
 have := or_fin m.resp m.auth m.trunc m.recu ⟨m.op.toNat, by omega⟩ ⟨m.code.toNat, by omega⟩
 dsimp only at this
 rw [Int.toNat_of_nonneg ho.1, Int.toNat_of_nonneg hc.1] at this
 exact this
set_option maxRecDepth 100000 in
theorem dn_bits {b : Nat} (m : Dn) (q a s d : Sl) (w : World) (h : In w (some ⟨b, 0, none⟩) (encDn m q a s d)) (ho : 0 ≤ m.op ∧ m.op ≤ 15) (hc : 0 ≤ m.code ∧ m.code ≤ 15) : Fn Tryz.prog 112 [.pointer (some ⟨b, 0, none⟩)] w [] fun v L' => v = .int .i64 (dBits m) ∧ L' = [] := by
 have c1 : ∀ {L : Heap}, Cell w [] L ⟨b, 1, none⟩ (.bool m.resp) := fun {L} => dn_cells (w' := w) h rfl
 have c2 : ∀ {L : Heap}, Cell w [] L ⟨b, 2, none⟩ (.int .i64 m.op) := fun {L} => dn_cells (w' := w) h rfl
 have c3 : ∀ {L : Heap}, Cell w [] L ⟨b, 3, none⟩ (.bool m.auth) := fun {L} => dn_cells (w' := w) h rfl
 have c4 : ∀ {L : Heap}, Cell w [] L ⟨b, 4, none⟩ (.bool m.trunc) := fun {L} => dn_cells (w' := w) h rfl
 have c5 : ∀ {L : Heap}, Cell w [] L ⟨b, 5, none⟩ (.bool m.recu) := fun {L} => dn_cells (w' := w) h rfl
 have c6 : ∀ {L : Heap}, Cell w [] L ⟨b, 6, none⟩ (.int .i64 m.code) := fun {L} => dn_cells (w' := w) h rfl
 refine Fn.enter Tryz.func112 rfl rfl rfl rfl (Holds.nil w) ?_
 refine W.go ?_
 refine CW.draw 35 rfl (by kernel_rfl) ?_
 refine WQ.p O.mv ?_
 refine WQ.p O.nc ?_
 first | refine WQ.p O.fb ?_ | refine WQ.p O.fa ?_
 first | refine WQ.p O.ld ?_ | refine WQ.p O.ldC ?_
 refine WQ.q (O.call ⟨rfl, rfl⟩ (AV.cons (vt rfl) (AV.cons (vt rfl) (AV.nil))) (fun _ w hw => dn_flag _ _ w)) ?_
 refine WQ.p O.mv ?_
 refine WQ.p O.nc ?_
 first | refine WQ.p O.fb ?_ | refine WQ.p O.fa ?_
 first | refine WQ.p O.ld ?_ | refine WQ.p O.ldC ?_
 refine WQ.p O.shl ?_
 refine WQ.p O.or ?_
 refine WQ.p O.mv ?_
 refine WQ.p O.nc ?_
 first | refine WQ.p O.fb ?_ | refine WQ.p O.fa ?_
 first | refine WQ.p O.ld ?_ | refine WQ.p O.ldC ?_
 refine WQ.q (O.call ⟨rfl, rfl⟩ (AV.cons (vt rfl) (AV.cons (vt rfl) (AV.nil))) (fun _ w hw => dn_flag _ _ w)) ?_
 refine WQ.p O.or ?_
 refine WQ.p O.mv ?_
 refine WQ.p O.nc ?_
 first | refine WQ.p O.fb ?_ | refine WQ.p O.fa ?_
 first | refine WQ.p O.ld ?_ | refine WQ.p O.ldC ?_
 refine WQ.q (O.call ⟨rfl, rfl⟩ (AV.cons (vt rfl) (AV.cons (vt rfl) (AV.nil))) (fun _ w hw => dn_flag _ _ w)) ?_
 refine WQ.p O.or ?_
 refine WQ.p O.mv ?_
 refine WQ.p O.nc ?_
 first | refine WQ.p O.fb ?_ | refine WQ.p O.fa ?_
 first | refine WQ.p O.ld ?_ | refine WQ.p O.ldC ?_
 refine WQ.q (O.call ⟨rfl, rfl⟩ (AV.cons (vt rfl) (AV.cons (vt rfl) (AV.nil))) (fun _ w hw => dn_flag _ _ w)) ?_
 refine WQ.p O.or ?_
 refine WQ.p O.mv ?_
 refine WQ.p O.nc ?_
 first | refine WQ.p O.fb ?_ | refine WQ.p O.fa ?_
 first | refine WQ.p O.ld ?_ | refine WQ.p O.ldC ?_
 refine WQ.p O.or ?_
 refine WQ.p O.as ?_
 refine WQ.nil ?_
 refine WL.nil (Q.tn ?_)
 refine CW.ret ?_
 refine ⟨_, [], (RVs.tmp rfl RVs.nil), List.nil_sublist _, ?_⟩
 refine ⟨congrArg (Value.int .i64) ?_, rfl⟩
 exact or_d ho hc
set_option maxRecDepth 100000 in
theorem dn_head (x : Int) (w : World) : Fn Tryz.prog 71 [.int .i64 x] w [] fun v L' => v = .tuple #[vDn (hdD x 0 [] [] [] [] 0) nS nS nS nS, .bool (decide (bits .and .i64 x 240 = 0))] ∧ L' = [] := by
 refine Fn.enter Tryz.func71 rfl rfl rfl rfl (Holds.nil w) ?_
 refine W.go ?_
 refine W.al rfl rfl fun b1 => ?_
 refine W.go ?_
 refine W.p O.and ?_
 refine W.go ?_
 refine W.p O.shr ?_
 refine W.p (O.andM 4 16 (h := by decide) (hq := by decide) (hM := by decide)) ?_
 refine W.go ?_
 refine W.p O.and ?_
 refine W.go ?_
 refine W.p O.and ?_
 refine W.go ?_
 refine W.p O.and ?_
 refine W.go ?_
 refine W.p (O.andM 4 16 (h := by decide) (hq := by decide) (hM := by decide)) ?_
 refine W.p (O.bd (hv := PV.cons (vt rfl) (PV.cons (vt rfl) (PV.cons (vt rfl) (PV.cons (vt rfl) (PV.cons (vt rfl) (PV.cons (vt rfl) (PV.nil)))))))) ?_
 refine W.al rfl rfl fun b2 => ?_
 refine W.st (vt rfl) (vt rfl) rfl ?_
 refine W.go ?_
 refine W.p O.and ?_
 refine W.go ?_
 refine W.st (vt rfl) (vt rfl) rfl ?_
 refine W.go ?_
 refine ⟨_, [], (RVs.cell rfl (RVs.tmp rfl RVs.nil)), List.nil_sublist _, ?_⟩
 exact ⟨rfl, rfl⟩
set_option maxRecDepth 100000 in
theorem dn_odd (k : Qn') (w : World) (h : k.name.length ≤ 140737488355328) : Fn Tryz.prog 107 [.agg #[.string (S k.name), .int .i64 k.type]] w [] fun v L' => v = .bool (!qMay k) ∧ L' = [] := by
 refine Fn.enter Tryz.func107 rfl rfl rfl rfl (Holds.nil w) ?_
 refine W.go ?_
 refine W.bx rfl (vt rfl) rfl fun b1 => ?_
 refine W.go ?_
 refine W.q (O.call ⟨rfl, rfl⟩ (AV.cons (vt rfl) (AV.nil)) (fun _ w hw => nm_May _ w (by omega))) ?_
 refine W.go ?_
 refine W.q (O.call ⟨rfl, rfl⟩ (AV.cons (vs rfl) (AV.cons (vt rfl) (AV.cons (vt rfl) (AV.nil)))) (fun _ w hw => dn_in _ _ _ w)) ?_
 refine W.go ?_
 refine ⟨_, [], (RVs.tmp rfl RVs.nil), List.nil_sublist _, ?_⟩
 refine ⟨congrArg Value.bool ?_, rfl⟩
 rw [qMay]; cases nmMay k.name <;> simp [oneOr]
set_option maxRecDepth 100000 in
theorem dn_bad (k : RR) (w : World) (h : k.name.length ≤ 140737488355328) (h2 : k.target.length ≤ 140737488355328) : Fn Tryz.prog 108 [vR k] w [] fun v L' => v = .bool (!rrMay k) ∧ L' = [] := by
 refine Fn.enter Tryz.func108 rfl rfl rfl rfl (Holds.nil w) ?_
 refine W.go ?_
 refine W.bx rfl (vt rfl) rfl fun b1 => ?_
 refine W.go ?_
 refine W.q (O.call ⟨rfl, rfl⟩ (AV.cons (vt rfl) (AV.nil)) (fun _ w hw => rr_May k w (by omega) (by omega))) ?_
 refine W.go ?_
 refine ⟨_, [], (RVs.tmp rfl RVs.nil), List.nil_sublist _, ?_⟩
 exact ⟨rfl, rfl⟩
theorem any_upL {α : Type} {f : α → Bool} {d : α} {xs : List α} {i : Int} (h0 : 0 ≤ i) (h1 : i < xs.length) : (xs.take (i + 1).toNat).any f = ((xs.take i.toNat).any f || f (xs.getD i.toNat d)) := by
 rw [take_at' d h0 h1, List.any_append]; simp
theorem any_at {α : Type} {f : α → Bool} {d : α} {xs : List α} {i : Int} (h0 : 0 ≤ i) (h1 : i < xs.length) (h : f (xs.getD i.toNat d) = true) : xs.any f = true :=
 List.any_eq_true.2 ⟨_, mem_at d h0 h1, h⟩
set_option maxRecDepth 100000 in
theorem ix_DR (xs : List RR) (a : Option Addr) (c : Nat) (w : World) (h : In w a (xs.flatMap encR)) (hn : xs.length ≤ 1000000000) (hk : ∀ k ∈ xs, k.name.length ≤ 140737488355328 ∧ k.target.length ≤ 140737488355328) :
  Fn Tryz.prog 79 [.slice a xs.length c, .func (.func 108) #[] #[]] w [] fun v L' => ∃ k : Int, v = .int .i64 k ∧ L' = [] ∧ decide (0 ≤ k) = xs.any (fun x => !rrMay x) := by
 have row := Row.ofE h
 refine Fn.enter Tryz.func79 rfl rfl rfl rfl (Holds.nil w) ?_
 refine W.go ?_
 refine CW.loopA (X := Int) (fun i => [(0, true, .slice a xs.length c), (1, true, .func (.func 108) #[] #[]), (7, true, .int .i64 xs.length), (8, true, .int .i64 i)]) (fun i => []) (fun i => 0 ≤ i ∧ i ≤ xs.length ∧ (xs.take i.toNat).any (fun x => !rrMay x) = false) (fun i => (xs.length - i).toNat) (0) ?_ ?_
 ·exact ⟨by omega, by omega, rfl⟩
 rintro i hI
 try dsimp only at hI ⊢
 obtain ⟨h0, h1, hr⟩ := hI
 refine W.go ?_
 refine CW.cond (vt rfl) (fun hc1 => ?_) (fun hc1 => ?_)
 ·try simp only [sk] at hc1
  refine W.go ?_
  refine W.callN (first := []) (cap := []) rfl (vt rfl) (AV.cons (vt rfl) (AV.nil)) (fun w hu => dn_bad (xs.getD i.toNat dR) w (hk _ (mem_at dR h0 hc1)).1 (hk _ (mem_at dR h0 hc1)).2) ?_; rintro _ _ ⟨rfl, rfl⟩
  refine W.go ?_
  refine CW.cond (vt rfl) (fun hc2 => ?_) (fun hc2 => ?_)
  ·try simp only [sk] at hc2
   refine W.go ?_
   refine ⟨_, [], (RVs.tmp rfl RVs.nil), List.nil_sublist _, ?_⟩
   refine ⟨i, rfl, rfl, ?_⟩
   rw [decide_eq_true h0, any_at (d := dR) h0 hc1 (by rw [hc2]; rfl)]
  try simp only [sk] at hc2
  refine W.go ?_
  refine nextA (_) ?_ ?_
  ·try dsimp only
   exact ⟨by omega, by omega, by rw [any_upL (d := dR) h0 hc1, hr, hc2]; rfl⟩
  ·try dsimp only
   omega
 try simp only [sk] at hc1
 refine W.go ?_
 refine ⟨_, [], (RVs.tmp rfl RVs.nil), List.nil_sublist _, ?_⟩
 refine ⟨-1, rfl, rfl, ?_⟩
 have e : xs.take i.toNat = xs := List.take_of_length_le (by omega)
 rw [e] at hr; rw [hr]; rfl
set_option maxRecDepth 100000 in
theorem cf_DR (xs : List RR) (n : Nat) (a : Option Addr) (c : Nat) (w : World) (h : In w a (xs.flatMap encR)) (hx : n = xs.length) (hn : xs.length ≤ 1000000000) (hk : ∀ k ∈ xs, k.name.length ≤ 140737488355328 ∧ k.target.length ≤ 140737488355328) :
  Fn Tryz.prog 40 [.slice a n c, .func (.func 108) #[] #[]] w [] fun v L' => v = .bool (xs.any (fun x => !rrMay x)) ∧ L' = [] := by
 subst hx
 have row := Row.ofE h
 refine Fn.enter Tryz.func40 rfl rfl rfl rfl (Holds.nil w) ?_
 refine W.go ?_
 refine W.callN (first := []) (cap := []) rfl (vt rfl) (AV.cons (vt rfl) (AV.cons (vt rfl) (AV.nil))) (fun w hu => ix_DR xs _ _ w (row.h _ w hu) (by omega) hk) ?_; rintro _ _ ⟨k, rfl, rfl, hk2⟩
 refine W.go ?_
 refine ⟨_, [], (RVs.tmp rfl RVs.nil), List.nil_sublist _, ?_⟩
 rw [← hk2]; exact ⟨rfl, rfl⟩
set_option maxRecDepth 100000 in
theorem ix_DQ (xs : List Qn') (a : Option Addr) (c : Nat) (w : World) (h : In w a (xs.flatMap encQ)) (hn : xs.length ≤ 1000000000) (hk : ∀ k ∈ xs, k.name.length ≤ 140737488355328) :
  Fn Tryz.prog 134 [.slice a xs.length c, .func (.func 107) #[] #[]] w [] fun v L' => ∃ k : Int, v = .int .i64 k ∧ L' = [] ∧ decide (0 ≤ k) = xs.any (fun x => !qMay x) := by
 have row := Row.ofE h
 refine Fn.enter Tryz.func134 rfl rfl rfl rfl (Holds.nil w) ?_
 refine W.go ?_
 refine CW.loopA (X := Int) (fun i => [(0, true, .slice a xs.length c), (1, true, .func (.func 107) #[] #[]), (7, true, .int .i64 xs.length), (8, true, .int .i64 i)]) (fun i => []) (fun i => 0 ≤ i ∧ i ≤ xs.length ∧ (xs.take i.toNat).any (fun x => !qMay x) = false) (fun i => (xs.length - i).toNat) (0) ?_ ?_
 ·exact ⟨by omega, by omega, rfl⟩
 rintro i hI
 try dsimp only at hI ⊢
 obtain ⟨h0, h1, hr⟩ := hI
 refine W.go ?_
 refine CW.cond (vt rfl) (fun hc1 => ?_) (fun hc1 => ?_)
 ·try simp only [sk] at hc1
  refine W.go ?_
  refine W.callN (first := []) (cap := []) rfl (vt rfl) (AV.cons (vt rfl) (AV.nil)) (fun w hu => dn_odd (xs.getD i.toNat dQ) w (hk _ (mem_at dQ h0 hc1))) ?_; rintro _ _ ⟨rfl, rfl⟩
  refine W.go ?_
  refine CW.cond (vt rfl) (fun hc2 => ?_) (fun hc2 => ?_)
  ·try simp only [sk] at hc2
   refine W.go ?_
   refine ⟨_, [], (RVs.tmp rfl RVs.nil), List.nil_sublist _, ?_⟩
   refine ⟨i, rfl, rfl, ?_⟩
   rw [decide_eq_true h0, any_at (d := dQ) h0 hc1 (by rw [hc2]; rfl)]
  try simp only [sk] at hc2
  refine W.go ?_
  refine nextA (_) ?_ ?_
  ·try dsimp only
   exact ⟨by omega, by omega, by rw [any_upL (d := dQ) h0 hc1, hr, hc2]; rfl⟩
  ·try dsimp only
   omega
 try simp only [sk] at hc1
 refine W.go ?_
 refine ⟨_, [], (RVs.tmp rfl RVs.nil), List.nil_sublist _, ?_⟩
 refine ⟨-1, rfl, rfl, ?_⟩
 have e : xs.take i.toNat = xs := List.take_of_length_le (by omega)
 rw [e] at hr; rw [hr]; rfl
set_option maxRecDepth 100000 in
theorem cf_DQ (xs : List Qn') (n : Nat) (a : Option Addr) (c : Nat) (w : World) (h : In w a (xs.flatMap encQ)) (hx : n = xs.length) (hn : xs.length ≤ 1000000000) (hk : ∀ k ∈ xs, k.name.length ≤ 140737488355328) :
  Fn Tryz.prog 110 [.slice a n c, .func (.func 107) #[] #[]] w [] fun v L' => v = .bool (xs.any (fun x => !qMay x)) ∧ L' = [] := by
 subst hx
 have row := Row.ofE h
 refine Fn.enter Tryz.func110 rfl rfl rfl rfl (Holds.nil w) ?_
 refine W.go ?_
 refine W.callN (first := []) (cap := []) rfl (vt rfl) (AV.cons (vt rfl) (AV.cons (vt rfl) (AV.nil))) (fun w hu => ix_DQ xs _ _ w (row.h _ w hu) (by omega) hk) ?_; rintro _ _ ⟨k, rfl, rfl, hk2⟩
 refine W.go ?_
 refine ⟨_, [], (RVs.tmp rfl RVs.nil), List.nil_sublist _, ?_⟩
 rw [← hk2]; exact ⟨rfl, rfl⟩
theorem any_not {α : Type} {f : α → Bool} {xs : List α} : xs.any (fun x => !f x) = !xs.all f := by
 induction xs with
 | nil => rfl
 | cons x l ih => simp only [List.any_cons, List.all_cons, ih]; cases f x <;> rfl
set_option maxRecDepth 100000 in
theorem dn_May (m : Dn) (q a s d : Sl) (w : World) (h : DnIn w m q a s d) (hz : DnSz m 140737488355328) : Fn Tryz.prog 74 [vDn m q a s d] w [] fun v L' => v = .bool (dnMay m) ∧ L' = [] := by
 have hrow : ∀ i : Int, 0 ≤ i → i < 3 → In w (([(a.1, m.an.length, a.2), (s.1, m.se.length, s.2), (d.1, m.ad.length, d.2)] : List (Option Addr × Nat × Nat)).getD i.toNat dSl).1 ((([m.an, m.se, m.ad] : List (List RR)).getD i.toNat []).flatMap encR) ∧ (([(a.1, m.an.length, a.2), (s.1, m.se.length, s.2), (d.1, m.ad.length, d.2)] : List (Option Addr × Nat × Nat)).getD i.toNat dSl).2.1 = (([m.an, m.se, m.ad] : List (List RR)).getD i.toNat []).length ∧ (([m.an, m.se, m.ad] : List (List RR)).getD i.toNat []).length ≤ 1048576 ∧ NmB (([m.an, m.se, m.ad] : List (List RR)).getD i.toNat []) 140737488355328 := by
  intro i h0 h3
  rcases (by omega : i = 0 ∨ i = 1 ∨ i = 2) with rfl | rfl | rfl
  ·exact ⟨h.ha, rfl, hz.ha⟩
  ·exact ⟨h.hs, rfl, hz.hs⟩
  ·exact ⟨h.hd, rfl, hz.hd⟩
 have hq2 := hz.hq.1
 refine Fn.enter Tryz.func74 rfl rfl rfl rfl (Holds.nil w) ?_
 refine W.go ?_
 refine W.bx rfl (vt rfl) rfl fun b1 => ?_
 refine W.p O.as ?_
 refine WL.nil (Q.tn ?_)
 refine CW.seq ?_
 refine CW.region ?_
 refine W.p O.as ?_
 refine WL.nil (Q.tn ?_)
 refine CW.seq ?_
 refine CW.region ?_
 refine W.p O.as ?_
 refine WL.nil (Q.tn ?_)
 refine CW.seq ?_
 refine CW.seq ?_
 refine CW.region ?_
 first | refine W.p O.fb ?_ | refine W.p O.fa ?_
 refine W.p O.ld ?_
 first | refine W.p O.fb ?_ | refine W.p O.fa ?_
 refine W.p O.ld ?_
 first | refine W.p O.fb ?_ | refine W.p O.fa ?_
 refine W.p O.ld ?_
 refine W.bs encSl ([(a.1, m.an.length, a.2), (s.1, m.se.length, s.2), (d.1, m.ad.length, d.2)] : List (Option Addr × Nat × Nat)) rfl (PV.cons (vt rfl) (PV.cons (vt rfl) (PV.cons (vt rfl) (PV.nil)))) rfl rfl rfl (by decide) rfl fun b2 => ?_
 refine W.go ?_
 refine CW.loopA (X := Int) (fun i => [(1, true, .pointer (some ⟨b1, 0, none⟩)), (3, true, .func (.func 107) #[] #[]), (4, true, .func (.func 108) #[] #[]), (13, true, .slice (some ⟨b2, 0, none⟩) 3 3), (14, true, .int .i64 3), (15, true, .int .i64 i)]) (fun i => [(b2, .cells (flat encSl ([(a.1, m.an.length, a.2), (s.1, m.se.length, s.2), (d.1, m.ad.length, d.2)] : List (Option Addr × Nat × Nat)) []).toArray 24 (0, 0)), (b1, .cells (encDn m q a s d).toArray 53 (0, 0))]) (fun i => 0 ≤ i ∧ i ≤ 3 ∧ ∀ j : Int, 0 ≤ j → j < i → rsMay (([m.an, m.se, m.ad] : List (List RR)).getD j.toNat []) = true) (fun i => (3 - i).toNat) (0) ?_ ?_
 ·exact ⟨by omega, by omega, fun j h0 h1 => absurd h0 (by omega)⟩
 rintro i hI
 try dsimp only at hI ⊢
 obtain ⟨h0, h1, hr⟩ := hI
 refine W.go ?_
 refine CW.cond (vt rfl) (fun hc1 => ?_) (fun hc1 => ?_)
 ·try simp only [sk] at hc1
  refine W.go ?_
  refine W.q (O.call ⟨rfl, rfl⟩ (AV.cons (vs rfl) (AV.cons (vs rfl) (AV.nil))) (fun _ w hw => cf_DR (([m.an, m.se, m.ad] : List (List RR)).getD i.toNat []) _ _ _ w ((hrow i h0 hc1).1.upd (L0 := []) hw) (hrow i h0 hc1).2.1 (by have := (hrow i h0 hc1).2.2.1; omega) (hrow i h0 hc1).2.2.2)) ?_
  refine W.go ?_
  refine CW.cond (vt rfl) (fun hc2 => ?_) (fun hc2 => ?_)
  ·try simp only [sk] at hc2
   refine W.go ?_
   refine ⟨_, [], (RVs.tmp rfl RVs.nil), List.nil_sublist _, ?_⟩
   refine ⟨congrArg Value.bool ?_, rfl⟩
   have hno : rsMay (([m.an, m.se, m.ad] : List (List RR)).getD i.toNat []) = false := by rw [rsMay]; rcases hc2 with h | h; (rw [decide_eq_false (by have := (hrow i h0 hc1).2.1; omega)]; rfl); (rw [any_not] at h; rw [(Bool.not_eq_true' _).mp h, Bool.and_false])
   rcases (by omega : i = 0 ∨ i = 1 ∨ i = 2) with rfl | rfl | rfl
   ·rw [dnMay, show rsMay m.an = false from hno]; rfl
   ·rw [dnMay, show rsMay m.se = false from hno]; cases rsMay m.an <;> rfl
   ·rw [dnMay, show rsMay m.ad = false from hno]; cases rsMay m.an <;> cases rsMay m.se <;> rfl
  try simp only [sk] at hc2
  refine W.go ?_
  refine nextA (_) ?_ ?_
  ·try dsimp only
   refine ⟨by omega, by omega, fun j j0 j1 => ?_⟩
   rcases (by omega : j < i ∨ j = i) with hj | rfl
   ·exact hr j j0 hj
   ·have e := (hrow j h0 hc1).2.1
    have hc2' := hc2
    rw [any_not, Bool.not_eq_false'] at hc2'
    rw [rsMay, hc2'.2, decide_eq_true (by omega)]; rfl
  ·try dsimp only
   omega
 try simp only [sk] at hc1
 refine W.go ?_
 refine W.q (O.call ⟨rfl, rfl⟩ (AV.cons (vt rfl) (AV.cons (vt rfl) (AV.cons (vt rfl) (AV.nil)))) (fun _ w hw => dn_in _ _ _ w)) ?_
 refine W.go ?_
 refine W.q (O.call ⟨rfl, rfl⟩ (AV.cons (vs rfl) (AV.cons (vt rfl) (AV.cons (vt rfl) (AV.nil)))) (fun _ w hw => dn_in _ _ _ w)) ?_
 refine W.go ?_
 refine W.q (O.call ⟨rfl, rfl⟩ (AV.cons (vs rfl) (AV.cons (vt rfl) (AV.cons (vt rfl) (AV.nil)))) (fun _ w hw => dn_in _ _ _ w)) ?_
 refine W.go ?_
 refine W.q (O.call ⟨rfl, rfl⟩ (AV.cons (vs rfl) (AV.cons (vs rfl) (AV.nil))) (fun _ w hw => cf_DQ m.qs _ _ _ w (h.hq.upd (L0 := []) hw) rfl (by omega) hz.hq.2)) ?_
 refine W.go ?_
 refine W.q (O.call ⟨rfl, rfl⟩ (AV.cons (vs rfl) (AV.cons (vt rfl) (AV.cons (vt rfl) (AV.nil)))) (fun _ w hw => dn_in _ _ _ w)) ?_
 refine W.go ?_
 refine ⟨_, [], (RVs.tmp rfl RVs.nil), List.nil_sublist _, ?_⟩
 refine ⟨congrArg Value.bool ?_, rfl⟩
 have r0 : rsMay m.an = true := hr 0 (by omega) (by omega)
 have r1 : rsMay m.se = true := hr 1 (by omega) (by omega)
 have r2 : rsMay m.ad = true := hr 2 (by omega) (by omega)
 rw [dnMay, r0, r1, r2, any_not, show decide ((m.qs.length : Int) ≤ 4) = decide (m.qs.length ≤ 4) from decide_eq_decide.2 (by omega)]
 generalize inR m.id 0 65535 = x1; generalize inR m.op 0 15 = x2; generalize inR m.code 0 15 = x3; generalize decide (m.qs.length ≤ 4) = x4; generalize m.qs.all qMay = x5; generalize decide (m.size = 0) = x6; generalize inR m.size 512 65535 = x7
 cases x1 <;> cases x2 <;> cases x3 <;> cases x4 <;> cases x5 <;> cases x6 <;> cases x7 <;> rfl
end Go.Proofs.YtfmdaijkgjkmpaaGreatDoor

set_option linter.unusedVariables false
set_option linter.unusedSimpArgs false
namespace Go.Proofs.YtfmdaijkgjkmpaaGreatDoor
open Go Go.RowKit
set_option maxRecDepth 100000 in
theorem dn_Grow (k : Int) (w : World) (h : 0 ≤ k ∧ k ≤ 1000000000) : Fn Tryz.prog 136 [.slice none 0 0, .int .i64 k] w [] (Fresh encR 58 7 []) := by
 refine Fn.enter Tryz.func136 rfl rfl rfl rfl (Holds.nil w) ?_
 refine W.go ?_
 refine CW.cond (vt rfl) (fun hc1 => ?_) (fun hc1 => ?_)
 ·exfalso; have := of_decide_eq_true hc1; omega
 try simp only [sk] at hc1
 refine W.go ?_
 refine W.p O.capL ?_
 refine W.go ?_
 refine CW.cond (vt rfl) (fun hc2 => ?_) (fun hc2 => ?_)
 ·try simp only [sk] at hc2
  refine W.go ?_
  refine W.p O.capL ?_
  refine W.p O.slH ?_
  refine W.go ?_
  refine W.apZ encR rfl (vt rfl) (vt rfl) rfl (by decide) (by first | omega | (simp only [decide_eq_true_eq] at *; omega)) (by omega) fun b1 c1 sp1 ok1 le1 => ?_
  refine W.go ?_
  refine W.p O.slH ?_
  refine W.go ?_
  refine ⟨_, rowL (some b1) 58 (flat encR [] sp1), (RVs.tmp rfl RVs.nil), (by repeat (first | exact List.Sublist.refl _ | exact hSub _ | exact List.sublist_append_left _ _ | exact List.nil_sublist _ | refine List.Sublist.append (List.Sublist.refl _) ?_ | apply List.Sublist.cons_cons | apply List.Sublist.cons | exact List.sublist_append_left _ _ | refine List.Sublist.trans ?_ (List.sublist_append_right _ _))), ?_⟩
  exact ⟨some b1, c1, sp1, rfl, ok1, rfl⟩
 try simp only [sk] at hc2
 refine W.go ?_
 refine ⟨_, [], (RVs.tmp rfl RVs.nil), List.nil_sublist _, ?_⟩
 exact ⟨none, 0, [], rfl, OwnOk.nil, rfl⟩
theorem flat_up {α : Type} {xss : List (List α)} {i : Int} (h0 : 0 ≤ i) (h1 : i < xss.length) : (xss.take (i + 1).toNat).flatten = (xss.take i.toNat).flatten ++ xss.getD i.toNat [] := by
 rw [take_at' [] h0 h1, List.flatten_append]; simp
set_option maxRecDepth 100000 in
theorem dn_Concat (ts : List (Option Addr × Nat × Nat)) (rss : List (List RR)) (a : Option Addr) (c : Nat) (w : World) (h : In w a (ts.flatMap encSl)) (hn : ts.length = 3) (hr3 : rss.length = 3) (hrow : ∀ i : Int, 0 ≤ i → i < 3 → In w (ts.getD i.toNat dSl).1 ((rss.getD i.toNat []).flatMap encR) ∧ (ts.getD i.toNat dSl).2.1 = (rss.getD i.toNat []).length ∧ (rss.getD i.toNat []).length ≤ 1000000) : Fn Tryz.prog 115 [.slice a ts.length c] w [] (Fresh encR 58 7 rss.flatten) := by
 have row := Row.ofE h
 refine Fn.enter Tryz.func115 rfl rfl rfl rfl (Holds.nil w) ?_
 refine W.go ?_
 refine CW.loopA (X := Int × Int) (fun ⟨i, z⟩ => [(0, true, .slice a ts.length c), (9, true, .slice a ts.length c), (10, true, .int .i64 ts.length), (3, true, .int .i64 z), (11, true, .int .i64 i)]) (fun ⟨i, z⟩ => []) (fun ⟨i, z⟩ => 0 ≤ i ∧ i ≤ 3 ∧ z = ((rss.take i.toNat).flatten.length : Int) ∧ 0 ≤ z ∧ z ≤ i * 1000000) (fun ⟨i, z⟩ => (3 - i).toNat) (0, 0) ?_ ?_
 ·exact ⟨by omega, by omega, rfl, by omega, by omega⟩
 rintro ⟨i, z⟩ hI
 try dsimp only at hI ⊢
 obtain ⟨h0, h1, hz, hz0, hz1⟩ := hI
 refine W.go ?_
 refine CW.cond (vt rfl) (fun hc1 => ?_) (fun hc1 => ?_)
 ·try simp only [sk] at hc1
  have hw3 := hrow i h0 (by omega)
  refine W.go ?_
  refine CW.cond (vt rfl) (fun hc2 => ?_) (fun hc2 => ?_)
  ·exfalso; have := of_decide_eq_true hc2; omega
  try simp only [sk] at hc2
  refine W.go ?_
  refine nextA (_, _) ?_ ?_
  ·try dsimp only
   have hw3 := hrow i h0 (by omega)
   refine ⟨by omega, by omega, ?_, by omega, by omega⟩
   rw [flat_up h0 (by omega), List.length_append]; omega
  ·try dsimp only
   omega
 try simp only [sk] at hc1
 refine W.go ?_
 refine W.callN (first := []) (cap := []) rfl (vt rfl) (AV.cons (vt rfl) (AV.cons (vt rfl) (AV.nil))) (fun w hu => dn_Grow z w (by omega)) ?_; rintro _ _ ⟨o9, c9, sp9, rfl, ok9, rfl⟩; have nk9 := ok9.nk (α := RR) (xs := [])
 refine W.go ?_
 refine CW.loopA (X := Int × (List RR) × (Option Nat) × Nat × (List Value)) (fun ⟨i, xs, o, cc, sp⟩ => [(25, true, .slice a ts.length c), (26, true, .int .i64 ts.length), (6, true, .slice (oa o) xs.length cc), (27, true, .int .i64 i)]) (fun ⟨i, xs, o, cc, sp⟩ => rowL o 58 (flat encR xs sp)) (fun ⟨i, xs, o, cc, sp⟩ => 0 ≤ i ∧ i ≤ 3 ∧ OwnOk o cc 7 xs.length sp.length ∧ xs = (rss.take i.toNat).flatten ∧ xs.length ≤ i * 1000000) (fun ⟨i, xs, o, cc, sp⟩ => (3 - i).toNat) (0, [], o9, c9, sp9) ?_ ?_
 ·exact ⟨by omega, by omega, ok9, rfl, by simp⟩
 rintro ⟨i, xs, o, cc, sp⟩ hI
 try dsimp only at hI ⊢
 obtain ⟨h0, h1, ok8, hx, hl⟩ := hI
 have nk8 := ok8.nk (α := RR) (xs := xs)
 refine W.go ?_
 refine CW.cond (vt rfl) (fun hc3 => ?_) (fun hc3 => ?_)
 ·try simp only [sk] at hc3
  have hw3 := hrow i h0 (by omega)
  have hl3 := hw3.2.1
  have row3 := Row.ofE (dv := dR) hw3.1
  refine W.go ?_
  refine W.ap rfl (vt rfl) (vt rfl) (by first | rfl | omega) (by first | rfl | omega) rfl (by first | assumption | exact OwnOk.nil | exact OwnOk.lit) (by first | omega | (simp; omega)) fun o1 c1 sp1 ok1 ne1 gt1 => ?_
  have nk1 := ok1.nk; have le1 := ok1.2.2.1; try simp only [List.length_append, List.length_cons, List.length_nil] at le1
  refine W.go ?_
  refine nextA (_, _, _, _, _) ?_ ?_
  ·try dsimp only
   have hw3 := hrow i h0 (by omega)
   refine ⟨by omega, by omega, by assumption, ?_, by simp only [List.length_append]; omega⟩
   rw [flat_up h0 (by omega), ← hx]
  ·try dsimp only
   omega
 try simp only [sk] at hc3
 refine W.go ?_
 refine ⟨_, rowL o 58 (flat encR xs sp), (RVs.tmp rfl RVs.nil), (by repeat (first | exact List.Sublist.refl _ | exact hSub _ | exact List.sublist_append_left _ _ | exact List.nil_sublist _ | refine List.Sublist.append (List.Sublist.refl _) ?_ | apply List.Sublist.cons_cons | apply List.Sublist.cons | exact List.sublist_append_left _ _ | refine List.Sublist.trans ?_ (List.sublist_append_right _ _))), ?_⟩
 have e : rss.take i.toNat = rss := List.take_of_length_le (by omega)
 rw [e] at hx; rw [← hx]; exact ⟨o, cc, sp, rfl, ok8, rfl⟩
end Go.Proofs.YtfmdaijkgjkmpaaGreatDoor

set_option linter.unusedVariables false
set_option linter.unusedSimpArgs false
namespace Go.Proofs.YtfmdaijkgjkmpaaGreatDoor
open Go Go.RowKit
theorem q_ks (st : List UInt8 × List Kn) (x : Qn') : (qPut st x).2.length ≤ st.2.length + 8 := (nmPut_more _ _ _).2.1
theorem r_ks (st : List UInt8 × List Kn) (x : RR) : (rPut st x).2.length ≤ st.2.length + 1000 := rrPut_ks _ _ _
theorem good_names {s : List UInt8} {ks : List Kn} (h : Good s ks) : ∀ k ∈ ks, k.name.length ≤ 72 := fun k hk => by
 have := (h k hk).1
 simp only [knOk, Bool.and_eq_true] at this
 exact nmMay_len this.1.1.2
theorem rr_len2 (p : Int) (ks : List Kn) (r : RR) : (rrPut p ks r).1.length ≤ 252 := by
 unfold rrPut
 cases h : putRr p ks r with
 | none => simp
 | some x => obtain ⟨t, k2⟩ := x; exact rr_len h
/-- a message's bytes up to a question, up to a record -/
def dQk (m : Dn) (i : Int) : List UInt8 × List Kn := (m.qs.take i.toNat).foldl qPut (dHd m, [])
def dRk (m : Dn) (i : Int) : List UInt8 × List Kn := ((dAll m).take i.toNat).foldl rPut (dQs m)
theorem dQk_up {m : Dn} {i : Int} (h0 : 0 ≤ i) (h1 : i < m.qs.length) : dQk m (i + 1) = qPut (dQk m i) (m.qs.getD i.toNat dQ) := by
 rw [dQk, take_at' dQ h0 h1, List.foldl_append]; rfl
theorem dRk_up {m : Dn} {i : Int} (h0 : 0 ≤ i) (h1 : i < (dAll m).length) : dRk m (i + 1) = rPut (dRk m i) ((dAll m).getD i.toNat dR) := by
 rw [dRk, take_at' dR h0 h1, List.foldl_append]; rfl
theorem dAll_may {m : Dn} (hm : dnMay m = true) : (dAll m).length ≤ 96 ∧ ∀ r ∈ dAll m, rrMay r = true := by
 obtain ⟨a, b, c, _⟩ := may_d hm
 refine ⟨by simp only [dAll, List.length_append]; omega, fun r hr => ?_⟩
 simp only [dAll, List.mem_append] at hr
 rcases hr with (hr | hr) | hr
 ·exact a.2 r hr
 ·exact b.2 r hr
 ·exact c.2 r hr
theorem dQk_ok {m : Dn} (hm : dnMay m = true) (i : Int) : Good (dQk m i).1 (dQk m i).2 ∧ (dQk m i).1.length ≤ 324 := by
 obtain ⟨_, _, _, _, _, _, e, _⟩ := may_d hm
 have hh := hd_len m
 have hl : (m.qs.take i.toNat).length ≤ 4 := by rw [List.length_take]; omega
 obtain ⟨t, e1, l1, g1, _⟩ := qs_back (m.qs.take i.toNat) (dHd m, []) (Good.nil _) (by dsimp only; omega) (fun x hx => e.2 x (List.mem_of_mem_take hx))
 refine ⟨g1, ?_⟩
 rw [dQk, e1, List.length_append]; dsimp only; omega
theorem dRk_ok {m : Dn} (hm : dnMay m = true) (i : Int) : Good (dRk m i).1 (dRk m i).2 ∧ (dRk m i).1.length ≤ 24600 := by
 have hd := dn_len hm
 have ha := dAll_may hm
 have hl : ((dAll m).take i.toNat).length ≤ 96 := by rw [List.length_take]; omega
 obtain ⟨t, e1, l1, g1, _⟩ := rs_back ((dAll m).take i.toNat) (dQs m) hd.2.2.2.1 (by omega) (fun x hx => ha.2 x (List.mem_of_mem_take hx))
 refine ⟨g1, ?_⟩
 rw [dRk, e1, List.length_append]; omega
theorem may_nm {r : RR} (h : rrMay r = true) : r.name.length ≤ 140737488355328 ∧ r.target.length ≤ 140737488355328 := by
 obtain ⟨hb, hn, _, _⟩ := may_parts h
 have h1 := nmMay_len hn
 refine ⟨by omega, ?_⟩
 have : r.target.length ≤ 72 := by
  unfold rrBody at hb
  split at hb
  ·simp only [Bool.and_eq_true, decide_eq_true_eq] at hb; rw [hb.1.1.1]; simp
  split at hb
  ·simp only [Bool.and_eq_true, decide_eq_true_eq] at hb; exact nmMay_len hb.2
  split at hb
  ·simp only [Bool.and_eq_true, decide_eq_true_eq] at hb; exact nmMay_len hb.1.2
  split at hb
  ·simp only [Bool.and_eq_true, decide_eq_true_eq] at hb; rw [hb.1.1.2]; simp
  ·cases hb
 omega
theorem h6_up {l : List Int} {i : Int} (h0 : 0 ≤ i) (h1 : i < l.length) : (l.take (i + 1).toNat).flatMap (fun x => beb x 2) = (l.take i.toNat).flatMap (fun x => beb x 2) ++ beb (l.getD i.toNat 0) 2 := by
 rw [take_at' 0 h0 h1, List.flatMap_append]; simp
theorem h6_hd (m : Dn) : ([m.id, dBits m, (m.qs.length : Int), (m.an.length : Int), (m.se.length : Int), (m.ad.length : Int) + flg (!decide (m.size = 0)) 1] : List Int).flatMap (fun x => beb x 2) = dHd m := by simp [dHd]
theorem flat3 (m : Dn) : ([m.an, m.se, m.ad] : List (List RR)).flatten = dAll m := by simp [dAll]
theorem dn_Concat3 (m : Dn) (a s d : Sl) (pa : Option Addr) (pc : Nat) (w : World) (h : In w pa (([(a.1, m.an.length, a.2), (s.1, m.se.length, s.2), (d.1, m.ad.length, d.2)] : List (Option Addr × Nat × Nat)).flatMap encSl)) (hrow : ∀ i : Int, 0 ≤ i → i < 3 → In w (([(a.1, m.an.length, a.2), (s.1, m.se.length, s.2), (d.1, m.ad.length, d.2)] : List (Option Addr × Nat × Nat)).getD i.toNat dSl).1 ((([m.an, m.se, m.ad] : List (List RR)).getD i.toNat []).flatMap encR) ∧ (([(a.1, m.an.length, a.2), (s.1, m.se.length, s.2), (d.1, m.ad.length, d.2)] : List (Option Addr × Nat × Nat)).getD i.toNat dSl).2.1 = (([m.an, m.se, m.ad] : List (List RR)).getD i.toNat []).length ∧ (([m.an, m.se, m.ad] : List (List RR)).getD i.toNat []).length ≤ 1000000) : Fn Tryz.prog 115 [.slice pa 3 pc] w [] (Fresh encR 58 7 (dAll m)) := by
 have := dn_Concat ([(a.1, m.an.length, a.2), (s.1, m.se.length, s.2), (d.1, m.ad.length, d.2)] : List (Option Addr × Nat × Nat)) ([m.an, m.se, m.ad] : List (List RR)) pa pc w h rfl rfl hrow
 rwa [flat3] at this
set_option maxRecDepth 100000 in
set_option maxHeartbeats 2000000 in
theorem dn_write {b : Nat} (m : Dn) (q a s d : Sl) (w : World) (h : In w (some ⟨b, 0, none⟩) (encDn m q a s d)) (hr : DnIn w m q a s d) (hm : dnMay m = true) : Fn Tryz.prog 76 [.pointer (some ⟨b, 0, none⟩)] w [] fun v L' => v = .string (S (dWrite m)) ∧ L' = [] := by
 obtain ⟨han, hse, had, hid, hop, hco, hqs, hsz⟩ := may_d hm
 have hall := dAll_may hm
 have c0 : ∀ {L : Heap}, Cell w [] L ⟨b, 0, none⟩ (.int .i64 m.id) := fun {L} => dn_cells (w' := w) h rfl
 have c7 : ∀ {L : Heap}, Cell w [] L ⟨b, 7, none⟩ (.slice q.1 m.qs.length q.2) := fun {L} => dn_cells (w' := w) h rfl
 have c8 : ∀ {L : Heap}, Cell w [] L ⟨b, 8, none⟩ (.slice a.1 m.an.length a.2) := fun {L} => dn_cells (w' := w) h rfl
 have c9 : ∀ {L : Heap}, Cell w [] L ⟨b, 9, none⟩ (.slice s.1 m.se.length s.2) := fun {L} => dn_cells (w' := w) h rfl
 have c10 : ∀ {L : Heap}, Cell w [] L ⟨b, 10, none⟩ (.slice d.1 m.ad.length d.2) := fun {L} => dn_cells (w' := w) h rfl
 have c11 : ∀ {L : Heap}, Cell w [] L ⟨b, 11, none⟩ (.int .i64 m.size) := fun {L} => dn_cells (w' := w) h rfl
 have rowq := Row.ofE (dv := dQ) hr.hq
 have hb1 : (beb 1 2).length = 2 := rfl
 have hb2 : (beb 41 2).length = 2 := rfl
 have hb3 : (beb 0 4).length = 4 := rfl
 have hb4 : (beb 0 2).length = 2 := rfl
 have hb5 : (beb m.size 2).length = 2 := beb_len 2 _
 have hb6 : ([0] : List UInt8).length = 1 := rfl
 have hfl : 0 ≤ flg (!decide (m.size = 0)) 1 ∧ flg (!decide (m.size = 0)) 1 ≤ 1 := by cases decide (m.size = 0) <;> decide
 have hrow : ∀ (w' : World) {L : Heap}, Upd w [] w' L → ∀ i : Int, 0 ≤ i → i < 3 → In w' (([(a.1, m.an.length, a.2), (s.1, m.se.length, s.2), (d.1, m.ad.length, d.2)] : List (Option Addr × Nat × Nat)).getD i.toNat dSl).1 ((([m.an, m.se, m.ad] : List (List RR)).getD i.toNat []).flatMap encR) ∧ (([(a.1, m.an.length, a.2), (s.1, m.se.length, s.2), (d.1, m.ad.length, d.2)] : List (Option Addr × Nat × Nat)).getD i.toNat dSl).2.1 = (([m.an, m.se, m.ad] : List (List RR)).getD i.toNat []).length ∧ (([m.an, m.se, m.ad] : List (List RR)).getD i.toNat []).length ≤ 1000000 := by
  intro w' L hw i h0 h3
  rcases (by omega : i = 0 ∨ i = 1 ∨ i = 2) with rfl | rfl | rfl
  ·exact ⟨hr.ha.upd (L0 := []) hw, rfl, by show m.an.length ≤ _; omega⟩
  ·exact ⟨hr.hs.upd (L0 := []) hw, rfl, by show m.se.length ≤ _; omega⟩
  ·exact ⟨hr.hd.upd (L0 := []) hw, rfl, by show m.ad.length ≤ _; omega⟩
 refine Fn.enter Tryz.func76 rfl rfl rfl rfl (Holds.nil w) ?_
 refine W.go ?_
 refine W.q (O.call ⟨rfl, rfl⟩ (AV.cons (vt rfl) (AV.cons (vt rfl) (AV.nil))) (fun _ w hw => dn_flag _ _ w)) ?_
 refine W.go ?_
 refine CW.drawHL rfl ?_
 refine RH.qa 0 rfl (O.mv) ?_
 refine RH.qa 1 rfl (O.nc) ?_
 first | refine RH.qa 2 rfl (O.fb) ?_ | refine RH.qa 2 rfl (O.fa) ?_
 first | refine RH.qa 3 rfl (O.ld) ?_ | refine RH.qa 3 rfl (O.ldC) ?_
 refine RH.qa 4 rfl (O.mv) ?_
 refine RH.qa 6 rfl (O.mv) ?_
 refine RH.qa 7 rfl (O.nc) ?_
 first | refine RH.qa 8 rfl (O.fb) ?_ | refine RH.qa 8 rfl (O.fa) ?_
 first | refine RH.qa 9 rfl (O.ld) ?_ | refine RH.qa 9 rfl (O.ldC) ?_
 refine RH.qa 10 rfl (O.lenL) ?_
 refine RH.qa 11 rfl (O.mv) ?_
 refine RH.qa 12 rfl (O.nc) ?_
 first | refine RH.qa 13 rfl (O.fb) ?_ | refine RH.qa 13 rfl (O.fa) ?_
 first | refine RH.qa 14 rfl (O.ld) ?_ | refine RH.qa 14 rfl (O.ldC) ?_
 refine RH.qa 15 rfl (O.lenL) ?_
 refine RH.qa 16 rfl (O.mv) ?_
 refine RH.qa 17 rfl (O.nc) ?_
 first | refine RH.qa 18 rfl (O.fb) ?_ | refine RH.qa 18 rfl (O.fa) ?_
 first | refine RH.qa 19 rfl (O.ld) ?_ | refine RH.qa 19 rfl (O.ldC) ?_
 refine RH.qa 20 rfl (O.lenL) ?_
 refine RH.qa 21 rfl (O.mv) ?_
 refine RH.qa 22 rfl (O.nc) ?_
 first | refine RH.qa 23 rfl (O.fb) ?_ | refine RH.qa 23 rfl (O.fa) ?_
 first | refine RH.qa 24 rfl (O.ld) ?_ | refine RH.qa 24 rfl (O.ldC) ?_
 refine RH.qa 25 rfl (O.lenL) ?_
 refine RH.qa 26 rfl (O.mv) ?_
 first | refine RH.qa 27 rfl (O.addN) ?_ | refine RH.qa 27 rfl (O.add) ?_
 refine RH.qa 30 rfl (O.mv) ?_
 refine RH.one (i := 5) (fun _ _ h => h) (by kernel_rfl) rfl ?_
 refine W.q (O.call ⟨rfl, rfl⟩ (AV.cons (vt rfl) (AV.nil)) (fun _ w hw => dn_bits m q a s d w (h.upd (L0 := []) hw) hop hco)) ?_
 refine WL.nilQa ?_
 refine RH.one (i := 28) (fun _ _ h => h) (by kernel_rfl) rfl ?_
 refine W.bs encI ([m.id, dBits m, (m.qs.length : Int), (m.an.length : Int), (m.se.length : Int), (m.ad.length : Int) + flg (!decide (m.size = 0)) 1] : List Int) rfl (PV.cons (vt rfl) (PV.cons (vt rfl) (PV.cons (vt rfl) (PV.cons (vt rfl) (PV.cons (vt rfl) (PV.cons (vt rfl) (PV.nil))))))) rfl rfl rfl (by decide) rfl fun b1 => ?_
 refine WL.nilQa ?_
 refine RH.qa 29 rfl (O.lenL) ?_
 refine RH.done (by kernel_rfl) (Q.tn ?_)
 refine W.go ?_
 refine CW.loopA (X := Int × (List UInt8)) (fun ⟨i, out⟩ => [(0, true, .pointer (some ⟨b, 0, none⟩)), (4, true, .int .i64 (flg (!decide (m.size = 0)) 1)), (52, true, .slice (oa (some b1)) 6 6), (53, true, .int .i64 6), (3, true, .string (S out)), (54, true, .int .i64 i)]) (fun ⟨i, out⟩ => rowL (some b1) 3 (flat encI ([m.id, dBits m, (m.qs.length : Int), (m.an.length : Int), (m.se.length : Int), (m.ad.length : Int) + flg (!decide (m.size = 0)) 1] : List Int) [])) (fun ⟨i, out⟩ => 0 ≤ i ∧ i ≤ 6 ∧ out = (([m.id, dBits m, (m.qs.length : Int), (m.an.length : Int), (m.se.length : Int), (m.ad.length : Int) + flg (!decide (m.size = 0)) 1] : List Int).take i.toNat).flatMap (fun x => beb x 2) ∧ out.length = 2 * i) (fun ⟨i, out⟩ => (6 - i).toNat) (0, []) ?_ ?_
 ·exact ⟨by omega, by omega, rfl, rfl⟩
 rintro ⟨i, out⟩ hI
 try dsimp only at hI ⊢
 obtain ⟨h0, h1, ho, hol⟩ := hI
 refine W.go ?_
 refine CW.cond (vt rfl) (fun hc1 => ?_) (fun hc1 => ?_)
 ·try simp only [sk] at hc1
  refine W.go ?_
  refine W.q (O.call ⟨rfl, rfl⟩ (AV.cons (vt rfl) (AV.cons (vt rfl) (AV.nil))) (fun _ w hw => be_Bytes _ 2 w (by decide))) ?_
  refine W.go ?_
  refine nextA (_, _) ?_ ?_
  ·try dsimp only
   refine ⟨by omega, by omega, ?_, by simp only [List.length_append, beb_len]; omega⟩
   rw [h6_up h0 (by show i < 6; omega), ho]
  ·try dsimp only
   omega
 try simp only [sk] at hc1
 have hout : out = dHd m := by rw [ho, ← h6_hd]; congr 1; exact List.take_of_length_le (by show 6 ≤ i.toNat; omega)
 subst hout
 refine W.go ?_
 refine CW.loopA (X := Int × (List UInt8 × List Kn) × (Option Nat) × Nat × (List Value)) (fun ⟨i, st, o, cc, sp⟩ => [(0, true, .pointer (some ⟨b, 0, none⟩)), (4, true, .int .i64 (flg (!decide (m.size = 0)) 1)), (66, true, .slice q.1 m.qs.length q.2), (67, true, .int .i64 m.qs.length), (3, true, .string (S st.1)), (7, true, .slice (oa o) st.2.length cc), (68, true, .int .i64 i)]) (fun ⟨i, st, o, cc, sp⟩ => rowL o 167 (flat encK st.2 sp)) (fun ⟨i, st, o, cc, sp⟩ => 0 ≤ i ∧ i ≤ m.qs.length ∧ OwnOk o cc 2 st.2.length sp.length ∧ st = dQk m i ∧ st.2.length ≤ 8 * i) (fun ⟨i, st, o, cc, sp⟩ => (m.qs.length - i).toNat) (0, (dHd m, []), none, 0, []) ?_ ?_
 ·exact ⟨by omega, by omega, OwnOk.nil, rfl, by simp⟩
 rintro ⟨i, st, o, cc, sp⟩ hI
 try dsimp only at hI ⊢
 obtain ⟨h0, h1, ok8, hst, hkl⟩ := hI
 have nk8 := ok8.nk (α := Kn) (xs := st.2)
 have hgo := dQk_ok hm i
 rw [← hst] at hgo
 have hgn := good_names hgo.1
 refine W.go ?_
 refine CW.cond (vt rfl) (fun hc2 => ?_) (fun hc2 => ?_)
 ·try simp only [sk] at hc2
  have hnm := (hqs.2 _ (mem_at dQ h0 hc2)).1
  have hnl := nmMay_len hnm
  have hq9 := (nmPut_more st.1.length st.2 (m.qs.getD i.toNat dQ).name).1
  have hq8 : (nmPut st.1.length st.2 (m.qs[i.toNat]?.getD dQ).name).1.length ≤ 74 := (nmPut_more _ _ _).1
  have hb9 : (beb (m.qs.getD i.toNat dQ).type 2).length = 2 := beb_len 2 _
  refine W.go ?_
  refine W.al rfl rfl fun b2 => ?_
  refine W.st (vt rfl) (vt rfl) rfl ?_
  refine W.go ?_
  refine W.callN (first := []) (cap := []) rfl (vt rfl) (AV.cons (vt rfl) (AV.cons (vt rfl) (AV.cons (vt rfl) (AV.nil)))) (fun w hu => wr_Put _ st.2 (m.qs.getD i.toNat dQ).name _ _ w (RowL.h _ hu) (by omega) (fun k hk => by have := hgn k hk; omega) (by omega)) ?_; rintro _ _ ⟨p4, q4, r4, rfl, hk4, rfl⟩; have nk4 := hk4.nk
  refine W.go ?_
  refine W.q (O.call ⟨rfl, rfl⟩ (AV.cons (vt rfl) (AV.cons (vt rfl) (AV.nil))) (fun _ w hw => be_Bytes _ 2 w (by decide))) ?_
  refine W.go ?_
  refine W.q (O.call ⟨rfl, rfl⟩ (AV.cons (vt rfl) (AV.cons (vt rfl) (AV.nil))) (fun _ w hw => be_Bytes _ 2 w (by decide))) ?_
  refine W.go ?_
  refine nextA (i + 1, qPut st (m.qs.getD i.toNat dQ), p4, q4, r4) ?_ ?_
  ·try dsimp only
   have hq8 := q_ks st (m.qs.getD i.toNat dQ)
   exact ⟨by omega, by omega, hk4, by rw [dQk_up h0 hc2, hst], by omega⟩
  ·try dsimp only
   omega
 try simp only [sk] at hc2
 have hst2 : st = dQs m := by rw [hst, dQk, dQs, List.take_of_length_le (by omega)]
 subst hst2
 refine W.go ?_
 refine CW.drawH [] rfl ?_
 refine RH.qa 0 rfl (O.mv) ?_
 refine RH.qa 1 rfl (O.nc) ?_
 first | refine RH.qa 2 rfl (O.fb) ?_ | refine RH.qa 2 rfl (O.fa) ?_
 first | refine RH.qa 3 rfl (O.ld) ?_ | refine RH.qa 3 rfl (O.ldC) ?_
 refine RH.qa 4 rfl (O.mv) ?_
 refine RH.qa 5 rfl (O.nc) ?_
 first | refine RH.qa 6 rfl (O.fb) ?_ | refine RH.qa 6 rfl (O.fa) ?_
 first | refine RH.qa 7 rfl (O.ld) ?_ | refine RH.qa 7 rfl (O.ldC) ?_
 refine RH.qa 8 rfl (O.mv) ?_
 refine RH.qa 9 rfl (O.nc) ?_
 first | refine RH.qa 10 rfl (O.fb) ?_ | refine RH.qa 10 rfl (O.fa) ?_
 first | refine RH.qa 11 rfl (O.ld) ?_ | refine RH.qa 11 rfl (O.ldC) ?_
 refine RH.qa 15 rfl (O.mv) ?_
 refine RH.one (i := 12) (fun _ _ h => h) (by kernel_rfl) rfl ?_
 refine W.bs encSl ([(a.1, m.an.length, a.2), (s.1, m.se.length, s.2), (d.1, m.ad.length, d.2)] : List (Option Addr × Nat × Nat)) rfl (PV.cons (vt rfl) (PV.cons (vt rfl) (PV.cons (vt rfl) (PV.nil)))) rfl rfl rfl (by decide) rfl fun b3 => ?_
 refine WL.nilQa ?_
 refine RH.one (i := 13) (fun _ _ h => h) (by kernel_rfl) rfl ?_
 refine W.callN (first := []) (cap := []) rfl (vt rfl) (AV.cons (vt rfl) (AV.nil)) (fun w hu => dn_Concat3 m a s d _ _ w (RowL.h _ hu) (fun i h0 h3 => hrow w hu i h0 h3)) ?_; rintro _ _ ⟨p5, q5, r5, rfl, hk5, rfl⟩; have nk5 := hk5.nk
 refine WL.nilQa ?_
 refine RH.qa 14 rfl (O.lenL) ?_
 refine RH.done (by kernel_rfl) (Q.tn ?_)
 refine W.go ?_
 refine CW.permH (L' := _ ++ rowL p5 58 (flat encR (dAll m) r5)) List.perm_append_comm ?_
 refine CW.loopA (X := Int × (List UInt8 × List Kn) × (Option Nat) × Nat × (List Value)) (fun ⟨i, st, o, cc, sp⟩ => [(0, true, .pointer (some ⟨b, 0, none⟩)), (4, true, .int .i64 (flg (!decide (m.size = 0)) 1)), (106, true, .slice (oa p5) (dAll m).length q5), (107, true, .int .i64 (dAll m).length), (3, true, .string (S st.1)), (7, true, .slice (oa o) st.2.length cc), (108, true, .int .i64 i)]) (fun ⟨i, st, o, cc, sp⟩ => rowL o 167 (flat encK st.2 sp) ++ rowL p5 58 (flat encR (dAll m) r5)) (fun ⟨i, st, o, cc, sp⟩ => 0 ≤ i ∧ i ≤ (dAll m).length ∧ OwnOk o cc 2 st.2.length sp.length ∧ st = dRk m i ∧ st.2.length ≤ 32 + 1000 * i) (fun ⟨i, st, o, cc, sp⟩ => ((dAll m).length - i).toNat) (0, dQs m, o, cc, sp) ?_ ?_
 ·exact ⟨by omega, by omega, ok8, rfl, by omega⟩
 rintro ⟨i, st, o, cc, sp⟩ hI
 try dsimp only at hI ⊢
 obtain ⟨h0, h1, ok9, hst, hkl⟩ := hI
 have nk9 := ok9.nk (α := Kn) (xs := st.2)
 have hgo := dRk_ok hm i
 rw [← hst] at hgo
 have hgn := good_names hgo.1
 refine W.go ?_
 refine CW.cond (vt rfl) (fun hc3 => ?_) (fun hc3 => ?_)
 ·try simp only [sk] at hc3
  have hq9 := rr_len2 st.1.length st.2 ((dAll m).getD i.toNat dR)
  have hnm := may_nm (hall.2 _ (mem_at dR h0 hc3))
  refine W.go ?_
  refine W.al rfl rfl fun b4 => ?_
  refine W.st (vt rfl) (vt rfl) rfl ?_
  refine W.go ?_
  refine W.callN (first := []) (cap := []) rfl (vt rfl) (AV.cons (vt rfl) (AV.cons (vt rfl) (AV.cons (vt rfl) (AV.nil)))) (fun w hu => rr_Put _ st.2 ((dAll m).getD i.toNat dR) _ _ w (RowL.h _ hu) (by omega) (by omega) (fun k hk => by have := hgn k hk; omega) hnm.1 hnm.2) ?_; rintro _ _ ⟨p4, q4, r4, rfl, hk4, rfl⟩; have nk4 := hk4.nk
  refine W.go ?_
  refine nextA (i + 1, rPut st ((dAll m).getD i.toNat dR), p4, q4, r4) ?_ ?_
  ·try dsimp only
   have hq8 := r_ks st ((dAll m).getD i.toNat dR)
   exact ⟨by omega, by omega, hk4, by rw [dRk_up h0 hc3, hst], by omega⟩
  ·try dsimp only
   omega
 try simp only [sk] at hc3
 have hst3 : st = dRs m := by rw [hst, dRk, dRs, List.take_of_length_le (by omega)]
 subst hst3
 refine W.go ?_
 refine CW.cond (vt rfl) (fun hc4 => ?_) (fun hc4 => ?_)
 ·try simp only [sk] at hc4
  refine CW.draw 14 rfl (by kernel_rfl) ?_
  refine WQ.p O.mv ?_
  refine WQ.q (O.call ⟨rfl, rfl⟩ (AV.cons (vt rfl) (AV.cons (vt rfl) (AV.nil))) (fun _ w hw => be_Bytes _ 2 w (by decide))) ?_
  refine WQ.p O.addS ?_
  refine WQ.p O.mv ?_
  refine WQ.p O.nc ?_
  first | refine WQ.p O.fb ?_ | refine WQ.p O.fa ?_
  first | refine WQ.p O.ld ?_ | refine WQ.p O.ldC ?_
  refine WQ.q (O.call ⟨rfl, rfl⟩ (AV.cons (vt rfl) (AV.cons (vt rfl) (AV.nil))) (fun _ w hw => be_Bytes _ 2 w (by decide))) ?_
  refine WQ.p O.addS ?_
  refine WQ.q (O.call ⟨rfl, rfl⟩ (AV.cons (vt rfl) (AV.cons (vt rfl) (AV.nil))) (fun _ w hw => be_Bytes _ 4 w (by decide))) ?_
  refine WQ.p O.addS ?_
  refine WQ.q (O.call ⟨rfl, rfl⟩ (AV.cons (vt rfl) (AV.cons (vt rfl) (AV.nil))) (fun _ w hw => be_Bytes _ 2 w (by decide))) ?_
  refine WQ.p O.addS ?_
  refine WQ.p O.addS ?_
  refine WQ.nil ?_
  refine W.p O.as ?_
  refine W.go ?_
  refine ⟨_, [], (RVs.tmp rfl RVs.nil), List.nil_sublist _, ?_⟩
  refine ⟨congrArg (fun x => Value.string (S x)) ?_, rfl⟩
  rw [dWrite, dOpt, if_neg (by intro e; rw [decide_eq_true e] at hc4; exact absurd hc4 (by decide))]
 try simp only [sk] at hc4
 refine W.go ?_
 refine ⟨_, [], (RVs.tmp rfl RVs.nil), List.nil_sublist _, ?_⟩
 refine ⟨congrArg (fun x => Value.string (S x)) ?_, rfl⟩
 rw [dWrite, dOpt, if_pos (by apply Decidable.byContradiction; intro e; rw [decide_eq_false e] at hc4; exact hc4 rfl), List.append_nil]
theorem may_cut {m : Dn} (h : dnMay m = true) : dnMay (cutD m) = true := by
 simp only [dnMay, cutD, Bool.and_eq_true] at h ⊢
 obtain ⟨⟨⟨⟨⟨⟨⟨⟨a, b⟩, c⟩, d⟩, e⟩, f⟩, g⟩, i⟩, j⟩ := h
 exact ⟨⟨⟨⟨⟨⟨⟨⟨rfl, rfl⟩, rfl⟩, d⟩, e⟩, f⟩, g⟩, i⟩, j⟩
set_option maxRecDepth 100000 in
theorem dn_Put (m : Dn) (q a s d : Sl) (most : Int) (w : World) (hr : DnIn w m q a s d) (hz : DnSz m 140737488355328) : Fn Tryz.prog 37 [vDn m q a s d, .int .i64 most] w [] fun v L' => v = .tuple #[.string (S (dnPut m most).1), .int .i64 (dnPut m most).2] ∧ L' = [] := by
 refine Fn.enter Tryz.func37 rfl rfl rfl rfl (Holds.nil w) ?_
 refine W.go ?_
 refine W.bx rfl (vt rfl) rfl fun b1 => ?_
 refine W.go ?_
 refine W.q (O.call ⟨rfl, rfl⟩ (AV.cons (vt rfl) (AV.nil)) (fun _ w hw => dn_May m q a s d w (hr.upd hw) hz)) ?_
 refine W.go ?_
 refine W.q (O.call ⟨rfl, rfl⟩ (AV.cons (vs rfl) (AV.cons (vt rfl) (AV.cons (vt rfl) (AV.nil)))) (fun _ w hw => dn_in _ _ _ w)) ?_
 refine W.go ?_
 refine CW.cond (vt rfl) (fun hc1 => ?_) (fun hc1 => ?_)
 ·try simp only [sk] at hc1
  refine W.go ?_
  refine ⟨_, [], (RVs.tmp rfl (RVs.tmp rfl RVs.nil)), List.nil_sublist _, ?_⟩
  refine ⟨?_, rfl⟩
  rw [dnPut, if_pos hc1]; rfl
 try simp only [sk] at hc1
 have hno : ¬ (dnMay m = false ∨ inR most 12 65535 = false) := by rintro (h | h); rw [hc1.1] at h; cases h; rw [hc1.2] at h; cases h
 have hb1 := (dn_len hc1.1).2.2.1
 have hb2 := (dn_len (may_cut hc1.1)).2.2.1
 refine W.go ?_
 refine W.q (O.call ⟨rfl, rfl⟩ (AV.cons (vt rfl) (AV.nil)) (fun _ w hw => dn_write m q a s d w (in_blk hw) (hr.upd hw) hc1.1)) ?_
 refine W.go ?_
 refine CW.cond (vt rfl) (fun hc2 => ?_) (fun hc2 => ?_)
 ·try simp only [sk] at hc2
  refine W.go ?_
  refine W.st (vt rfl) (vt rfl) rfl ?_
  refine W.go ?_
  first | refine W.st (vt rfl) (vt rfl) rfl ?_ | refine W.st (u := .slice _ _ _) (vt rfl) (vt rfl) rfl ?_
  refine W.go ?_
  first | refine W.st (vt rfl) (vt rfl) rfl ?_ | refine W.st (u := .slice _ _ _) (vt rfl) (vt rfl) rfl ?_
  refine W.go ?_
  first | refine W.st (vt rfl) (vt rfl) rfl ?_ | refine W.st (u := .slice _ _ _) (vt rfl) (vt rfl) rfl ?_
  refine W.go ?_
  refine W.q (O.call ⟨rfl, rfl⟩ (AV.cons (vt rfl) (AV.nil)) (fun _ w hw => dn_write (cutD m) q nS nS nS w (in_blk hw) ⟨hr.hq.upd (L0 := []) hw, In.nil, In.nil, In.nil⟩ (may_cut hc1.1))) ?_
  refine W.go ?_
  refine CW.cond (vt rfl) (fun hc3 => ?_) (fun hc3 => ?_)
  ·try simp only [sk] at hc3
   refine W.go ?_
   refine ⟨_, [], (RVs.tmp rfl (RVs.tmp rfl RVs.nil)), List.nil_sublist _, ?_⟩
   refine ⟨?_, rfl⟩
   rw [dnPut, if_neg hno, if_neg (by omega), if_neg (by omega)]; rfl
  try simp only [sk] at hc3
  refine W.go ?_
  refine ⟨_, [], (RVs.tmp rfl (RVs.tmp rfl RVs.nil)), List.nil_sublist _, ?_⟩
  refine ⟨?_, rfl⟩
  rw [dnPut, if_neg hno, if_neg (by omega), if_pos (by omega)]; rfl
 try simp only [sk] at hc2
 refine W.go ?_
 refine CW.cond (vt rfl) (fun hc4 => ?_) (fun hc4 => ?_)
 ·exact absurd (of_decide_eq_true hc4) hc2
 try simp only [sk] at hc4
 refine W.go ?_
 refine ⟨_, [], (RVs.tmp rfl (RVs.tmp rfl RVs.nil)), List.nil_sublist _, ?_⟩
 refine ⟨?_, rfl⟩
 rw [dnPut, if_neg hno, if_pos (by omega)]; rfl
end Go.Proofs.YtfmdaijkgjkmpaaGreatDoor
