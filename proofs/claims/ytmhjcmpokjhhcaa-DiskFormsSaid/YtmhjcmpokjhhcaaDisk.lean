/- What each function of package disk and of its reference comes to. Conditions: the texts are not longer than some 2^41 bytes. -/
import Derived.Test.YtmhjcmpokjhhcaaTypes
set_option linter.unusedVariables false
set_option linter.unusedSimpArgs false
namespace Go.Proofs.Ytmhjcmpokjhhcaa
open Go Go.RowKit
/-- a disk -/
structure Dk where
  log : List UInt8
  syn : Int
  bes : Bool
  nxt : List UInt8
  kep : Int
abbrev Dk.cells (d : Dk) : List Value := [.string (S d.log), .int .i64 d.syn, .bool d.bes, .string (S d.nxt), .int .i64 d.kep]
abbrev Dk.zero : Dk := ⟨[], 0, false, [], 0⟩
abbrev big : Nat := 300000000000000
def Dk.fit (d : Dk) : Prop := d.log.length ≤ big ∧ d.nxt.length ≤ big
def Dk.may (d : Dk) : Bool :=
  (d.bes || (decide (d.nxt = []) && decide (d.kep = 0))) && decide ((d.log.length : Int) + d.nxt.length ≤ 2048) && decide (0 ≤ d.syn) && decide (d.syn ≤ d.log.length) && decide (0 ≤ d.kep) && decide (d.kep ≤ d.nxt.length)
theorem Dk.may_iff (d : Dk) : d.may = true ↔ (d.bes = true ∨ (d.nxt = [] ∧ d.kep = 0)) ∧ d.log.length + d.nxt.length ≤ 2048 ∧ 0 ≤ d.syn ∧ d.syn ≤ d.log.length ∧ 0 ≤ d.kep ∧ d.kep ≤ d.nxt.length := by
  simp only [Dk.may, Bool.and_eq_true, Bool.or_eq_true, decide_eq_true_eq, and_assoc]; constructor <;> (rintro ⟨h1, h2, h3⟩; exact ⟨h1, by omega, h3⟩)

set_option maxRecDepth 100000 in
theorem disk_May (d : Dk) (w : World) (hf : d.fit) : Fn Try.prog 26 [.agg d.cells.toArray] w [] fun v L' => v = .bool d.may ∧ L' = [] := by
  obtain ⟨h1, h2⟩ := hf
  simp only [big] at h1 h2
  refine Fn.enter Try.func26 rfl rfl rfl rfl (Holds.nil w) ?_
  refine CW.seq ?_
  refine CW.region ?_
  refine W.bx rfl (vt rfl) rfl fun b1 => ?_
  refine W.q (QV.q (O.as ⟨rfl, rfl⟩ (vt rfl))) ?_
  refine WL.nil (Q.tn ?_)
  refine CW.seq ?_
  refine CW.region ?_
  first | refine W.q (QV.q (O.fb ⟨rfl, rfl⟩ (vt rfl))) ?_ | refine W.q (QV.q (O.fa ⟨rfl, rfl⟩ (vt rfl))) ?_
  refine W.q (QV.q (O.ld ⟨rfl, rfl⟩ (vt rfl))) ?_
  refine W.q (QV.q (O.mv ⟨rfl, rfl⟩ (vt rfl))) ?_
  first | refine W.q (QV.q (O.fb ⟨rfl, rfl⟩ (vt rfl))) ?_ | refine W.q (QV.q (O.fa ⟨rfl, rfl⟩ (vt rfl))) ?_
  refine W.q (QV.q (O.ld ⟨rfl, rfl⟩ (vs rfl))) ?_
  refine W.q (QV.q (O.eqS ⟨rfl, rfl⟩ (vs rfl) (vt rfl))) ?_
  refine W.q (QV.q (O.mv ⟨rfl, rfl⟩ (vs rfl))) ?_
  first | refine W.q (QV.q (O.fb ⟨rfl, rfl⟩ (vt rfl))) ?_ | refine W.q (QV.q (O.fa ⟨rfl, rfl⟩ (vt rfl))) ?_
  refine W.q (QV.q (O.ld ⟨rfl, rfl⟩ (vs rfl))) ?_
  refine W.q (QV.q (O.eqI ⟨rfl, rfl⟩ (vs rfl) (vt rfl))) ?_
  refine W.q (QV.q (O.pkB ⟨rfl, rfl⟩ (vs rfl) (vs rfl) (vt rfl))) ?_
  refine W.q (QV.q (O.pkB ⟨rfl, rfl⟩ (vt rfl) (vt rfl) (vs rfl))) ?_
  refine W.q (QV.q (O.as ⟨rfl, rfl⟩ (vt rfl))) ?_
  refine WL.nil (Q.tn ?_)
  refine CW.seq ?_
  refine CW.region ?_
  refine W.q (QV.q (O.mv ⟨rfl, rfl⟩ (vt rfl))) ?_
  refine W.q (QV.q (O.mv ⟨rfl, rfl⟩ (vt rfl))) ?_
  first | refine W.q (QV.q (O.fb ⟨rfl, rfl⟩ (vt rfl))) ?_ | refine W.q (QV.q (O.fa ⟨rfl, rfl⟩ (vt rfl))) ?_
  refine W.q (QV.q (O.ld ⟨rfl, rfl⟩ (vs rfl))) ?_
  refine W.q (QV.q (O.len ⟨rfl, rfl⟩ (vs rfl))) ?_
  first | refine W.q (QV.q (O.fb ⟨rfl, rfl⟩ (vt rfl))) ?_ | refine W.q (QV.q (O.fa ⟨rfl, rfl⟩ (vt rfl))) ?_
  refine W.q (QV.q (O.ld ⟨rfl, rfl⟩ (vs rfl))) ?_
  refine W.q (QV.q (O.len ⟨rfl, rfl⟩ (vs rfl))) ?_
  first | refine W.q (QV.q (O.addN ⟨rfl, rfl⟩ (vs rfl) (vs rfl) (fun _ => by omega))) ?_ | refine W.q (QV.q (O.add ⟨rfl, rfl⟩ (vs rfl) (vs rfl))) ?_
  refine W.q (QV.q (O.leq ⟨rfl, rfl⟩ (vs rfl) (vt rfl))) ?_
  refine W.q (QV.q (O.pkB ⟨rfl, rfl⟩ (vt rfl) (vs rfl) (vt rfl))) ?_
  refine W.q (QV.q (O.mv ⟨rfl, rfl⟩ (vt rfl))) ?_
  first | refine W.q (QV.q (O.fb ⟨rfl, rfl⟩ (vt rfl))) ?_ | refine W.q (QV.q (O.fa ⟨rfl, rfl⟩ (vt rfl))) ?_
  refine W.q (QV.q (O.ld ⟨rfl, rfl⟩ (vs rfl))) ?_
  refine W.q (QV.q (O.geq ⟨rfl, rfl⟩ (vs rfl) (vt rfl))) ?_
  refine W.q (QV.q (O.pkB ⟨rfl, rfl⟩ (vt rfl) (vs rfl) (vt rfl))) ?_
  refine W.q (QV.q (O.mv ⟨rfl, rfl⟩ (vt rfl))) ?_
  first | refine W.q (QV.q (O.fb ⟨rfl, rfl⟩ (vt rfl))) ?_ | refine W.q (QV.q (O.fa ⟨rfl, rfl⟩ (vt rfl))) ?_
  refine W.q (QV.q (O.ld ⟨rfl, rfl⟩ (vs rfl))) ?_
  first | refine W.q (QV.q (O.fb ⟨rfl, rfl⟩ (vt rfl))) ?_ | refine W.q (QV.q (O.fa ⟨rfl, rfl⟩ (vt rfl))) ?_
  refine W.q (QV.q (O.ld ⟨rfl, rfl⟩ (vs rfl))) ?_
  refine W.q (QV.q (O.len ⟨rfl, rfl⟩ (vs rfl))) ?_
  refine W.q (QV.q (O.leq ⟨rfl, rfl⟩ (vs rfl) (vs rfl))) ?_
  refine W.q (QV.q (O.pkB ⟨rfl, rfl⟩ (vt rfl) (vs rfl) (vt rfl))) ?_
  refine W.q (QV.q (O.mv ⟨rfl, rfl⟩ (vt rfl))) ?_
  first | refine W.q (QV.q (O.fb ⟨rfl, rfl⟩ (vt rfl))) ?_ | refine W.q (QV.q (O.fa ⟨rfl, rfl⟩ (vt rfl))) ?_
  refine W.q (QV.q (O.ld ⟨rfl, rfl⟩ (vs rfl))) ?_
  refine W.q (QV.q (O.geq ⟨rfl, rfl⟩ (vs rfl) (vt rfl))) ?_
  refine W.q (QV.q (O.pkB ⟨rfl, rfl⟩ (vt rfl) (vs rfl) (vt rfl))) ?_
  refine W.q (QV.q (O.mv ⟨rfl, rfl⟩ (vt rfl))) ?_
  first | refine W.q (QV.q (O.fb ⟨rfl, rfl⟩ (vt rfl))) ?_ | refine W.q (QV.q (O.fa ⟨rfl, rfl⟩ (vt rfl))) ?_
  refine W.q (QV.q (O.ld ⟨rfl, rfl⟩ (vs rfl))) ?_
  first | refine W.q (QV.q (O.fb ⟨rfl, rfl⟩ (vt rfl))) ?_ | refine W.q (QV.q (O.fa ⟨rfl, rfl⟩ (vt rfl))) ?_
  refine W.q (QV.q (O.ld ⟨rfl, rfl⟩ (vs rfl))) ?_
  refine W.q (QV.q (O.len ⟨rfl, rfl⟩ (vs rfl))) ?_
  refine W.q (QV.q (O.leq ⟨rfl, rfl⟩ (vs rfl) (vs rfl))) ?_
  refine W.q (QV.q (O.pkB ⟨rfl, rfl⟩ (vt rfl) (vs rfl) (vt rfl))) ?_
  refine W.q (QV.q (O.as ⟨rfl, rfl⟩ (vt rfl))) ?_
  refine WL.nil (Q.tn ?_)
  refine CW.ret ?_
  refine ⟨_, [], (RVs.tmp rfl RVs.nil), List.nil_sublist _, ?_⟩
  refine ⟨congrArg Value.bool ?_, rfl⟩
  simp only [Dk.may, Bool.cond_false_right, Bool.cond_true_left]

/-- what 'turned' comes to: the disk that 'turn' makes -/
abbrev Blkd (b : Nat) (d : Dk) : Nat × Obj := (b, .cells d.cells.toArray 23 (0, 0))
/-- a step: what the closure does -/
def Step (f : FuncId) (cap : List Value) (Lc : Heap) (d d' : Dk) : Prop :=
  ∀ b w, Holds (Blkd b d :: Lc) w → Fn Try.prog f (.pointer (some ⟨b, 0, none⟩) :: cap) w (Blkd b d :: Lc) fun _ L' => L' = Blkd b d' :: Lc
def Dk.turned (d : Dk) (must : Bool) (d' : Dk) : Dk × Int :=
  if d.may && must then (if d'.log.length + d'.nxt.length ≤ 2048 then (d', 0) else (Dk.zero, 2201)) else (Dk.zero, 2200)
theorem Dk.turned_no {d d' : Dk} {must : Bool} (h : d.may = false ∨ must = false) : d.turned must d' = (Dk.zero, 2200) := by rcases h with h | h <;> simp [Dk.turned, h]
theorem Dk.turned_full {d d' : Dk} {must : Bool} (h : d.may = true ∧ must = true) (h2 : 2048 < d'.log.length + d'.nxt.length) : d.turned must d' = (Dk.zero, 2201) := by simp [Dk.turned, h.1, h.2]; omega
theorem Dk.turned_ok {d d' : Dk} {must : Bool} (h : d.may = true ∧ must = true) (h2 : d'.log.length + d'.nxt.length ≤ 2048) : d.turned must d' = (d', 0) := by simp [Dk.turned, h.1, h.2, h2]
set_option maxRecDepth 100000 in
theorem disk_turned (d d' : Dk) (must : Bool) (f : FuncId) [TBody Try.prog f] (cap : List Value) (Lc : Heap) (w : World) (hf : d.fit) (hf' : d'.fit) (hs : (d.may && must) = true → Step f cap Lc d d') (hL : Holds Lc w) :
    Fn Try.prog 40 [.agg d.cells.toArray, .bool must, .func (.func f) #[] cap.toArray] w Lc fun v L' => v = .tuple #[.agg (d.turned must d').1.cells.toArray, .int .i64 (d.turned must d').2] ∧ L' = Lc := by
  have h1 := hf; have h2 := hf'
  simp only [Dk.fit, big] at h1 h2
  refine Fn.enter Try.func40 rfl rfl rfl rfl hL ?_
  refine CW.seq ?_
  refine CW.region ?_
  refine W.bx rfl (vt rfl) rfl fun b1 => ?_
  refine W.al rfl rfl fun b2 => ?_
  refine W.q (QV.q (O.as ⟨rfl, rfl⟩ (vt rfl))) ?_
  refine WL.nil (Q.tn ?_)
  refine CW.seq ?_
  refine CW.seq ?_
  refine CW.region ?_
  refine W.q (QV.q (O.lds ⟨rfl, rfl⟩ (vt rfl))) ?_
  refine W.q (O.call ⟨rfl, rfl⟩ (AV.cons (vt rfl) (AV.nil)) (fun _ w hw => disk_May _ w (by first | assumption | (constructor <;> simp_all [Dk.fit])))) ?_
  refine W.q (QV.q (O.nt ⟨rfl, rfl⟩ (vt rfl))) ?_
  refine W.q (QV.q (O.mv ⟨rfl, rfl⟩ (vt rfl))) ?_
  refine W.q (QV.q (O.mv ⟨rfl, rfl⟩ (vt rfl))) ?_
  refine W.q (QV.q (O.nt ⟨rfl, rfl⟩ (vs rfl))) ?_
  refine W.q (QV.q (O.pkB ⟨rfl, rfl⟩ (vt rfl) (vt rfl) (vs rfl))) ?_
  refine WL.nil (Q.tn ?_)
  refine CW.cond (vt rfl) (fun hc1 => ?_) (fun hc1 => ?_)
  · refine CW.seq ?_
    refine CW.region ?_
    refine W.q (QV.q (O.bd ⟨rfl, rfl⟩ (PV.nil))) ?_
    refine W.st (vt rfl) (vt rfl) rfl ?_
    refine W.q (QV.q (O.as ⟨rfl, rfl⟩ (vt rfl))) ?_
    refine WL.nil (Q.tn ?_)
    refine CW.ret (Q.tr ?_)
    refine ⟨_, Lc, (RVs.cell rfl (RVs.tmp rfl RVs.nil)), by simp, ?_⟩
    refine ⟨?_, rfl⟩; clear hs; first | (rw [Dk.turned_no (by simpa using hc1)]; rfl) | (rw [Dk.turned_full (by simpa using hc1) (by simp at hc2; omega)]; rfl) | (rw [Dk.turned_ok (by simpa using hc1) (by simp at hc2; omega)]; rfl)
  · refine CW.skip (Q.tn ?_)
    refine CW.seq ?_
    refine CW.seq ?_
    refine CW.region ?_
    refine W.q (QV.q (O.mv ⟨rfl, rfl⟩ (vt rfl))) ?_
    refine W.call (first := []) (cap := cap) (Blkd b1 d :: Lc) [(b2, .cells Dk.zero.cells.toArray 23 (0, 0))] rfl (vt rfl) (AV.cons (vt rfl) (AV.nil)) (List.perm_append_comm (l₁ := [_])) (fun w _ hw => hs (by simp_all) b1 w hw) ?_; rintro _ _ rfl
    refine WL.nil (Q.tn ?_)
    refine CW.seq ?_
    refine CW.region ?_
    first | refine W.q (QV.q (O.fb ⟨rfl, rfl⟩ (vt rfl))) ?_ | refine W.q (QV.q (O.fa ⟨rfl, rfl⟩ (vt rfl))) ?_
    refine W.q (QV.q (O.ld ⟨rfl, rfl⟩ (vt rfl))) ?_
    refine W.q (QV.q (O.len ⟨rfl, rfl⟩ (vt rfl))) ?_
    first | refine W.q (QV.q (O.fb ⟨rfl, rfl⟩ (vt rfl))) ?_ | refine W.q (QV.q (O.fa ⟨rfl, rfl⟩ (vt rfl))) ?_
    refine W.q (QV.q (O.ld ⟨rfl, rfl⟩ (vt rfl))) ?_
    refine W.q (QV.q (O.len ⟨rfl, rfl⟩ (vt rfl))) ?_
    first | refine W.q (QV.q (O.addN ⟨rfl, rfl⟩ (vt rfl) (vt rfl) (fun _ => by omega))) ?_ | refine W.q (QV.q (O.add ⟨rfl, rfl⟩ (vt rfl) (vt rfl))) ?_
    refine W.q (QV.q (O.gtr ⟨rfl, rfl⟩ (vt rfl) (vt rfl))) ?_
    refine WL.nil (Q.tn ?_)
    refine CW.cond (vt rfl) (fun hc2 => ?_) (fun hc2 => ?_)
    · refine CW.seq ?_
      refine CW.region ?_
      refine W.q (QV.q (O.bd ⟨rfl, rfl⟩ (PV.nil))) ?_
      refine W.st (vt rfl) (vt rfl) rfl ?_
      refine W.q (QV.q (O.as ⟨rfl, rfl⟩ (vt rfl))) ?_
      refine WL.nil (Q.tn ?_)
      refine CW.ret (Q.tr ?_)
      refine ⟨_, Lc, (RVs.cell rfl (RVs.tmp rfl RVs.nil)), by simp, ?_⟩
      refine ⟨?_, rfl⟩; clear hs; first | (rw [Dk.turned_no (by simpa using hc1)]; rfl) | (rw [Dk.turned_full (by simpa using hc1) (by simp at hc2; omega)]; rfl) | (rw [Dk.turned_ok (by simpa using hc1) (by simp at hc2; omega)]; rfl)
    · refine CW.skip (Q.tn ?_)
      refine CW.seq ?_
      refine CW.region ?_
      refine W.q (QV.q (O.lds ⟨rfl, rfl⟩ (vt rfl))) ?_
      refine W.st (vt rfl) (vt rfl) rfl ?_
      refine W.q (QV.q (O.as ⟨rfl, rfl⟩ (vt rfl))) ?_
      refine WL.nil (Q.tn ?_)
      refine CW.ret ?_
      refine ⟨_, Lc, (RVs.cell rfl (RVs.tmp rfl RVs.nil)), by simp, ?_⟩
      refine ⟨?_, rfl⟩; clear hs; first | (rw [Dk.turned_no (by simpa using hc1)]; rfl) | (rw [Dk.turned_full (by simpa using hc1) (by simp at hc2; omega)]; rfl) | (rw [Dk.turned_ok (by simpa using hc1) (by simp at hc2; omega)]; rfl)
/-! the closures -/
abbrev Boxs (b : Nat) (s : List UInt8) : Nat × Obj := (b, .cells #[.string (S s)] 9 (0, 0))
abbrev Boxi (b : Nat) (k : Int) : Nat × Obj := (b, .cells #[.int .i64 k] 3 (0, 0))
def Dk.app (d : Dk) (s : List UInt8) : Dk := { d with log := d.log ++ s }
def Dk.syncd (d : Dk) : Dk := { d with syn := d.log.length }
def Dk.beg (d : Dk) (s : List UInt8) : Dk := { d with bes := true, nxt := s, kep := 0 }
def Dk.set (d : Dk) : Dk := { d with kep := d.nxt.length }
def Dk.swp (d : Dk) : Dk := { Dk.zero with log := d.nxt, syn := d.kep }
def Dk.cut (d : Dk) (k : Int) : Dk := { Dk.zero with log := d.log.take (d.syn + min k (d.log.length - d.syn)).toNat, syn := d.syn + min k (d.log.length - d.syn) }
set_option maxRecDepth 100000 in
theorem disk_Append1 (d : Dk) (s : List UInt8) (bs : Nat) (h1 : d.log.length ≤ big) (h2 : s.length ≤ big) : Step 41 [.pointer (some ⟨bs, 0, none⟩)] [Boxs bs s] d (d.app s) := by
  intro b w hL
  simp only [big] at h1 h2
  refine Fn.enter Try.func41 rfl rfl rfl rfl hL ?_
  refine CW.draw 8 rfl (by kernel_rfl) ?_
  refine WQ.q (QV.q (O.mv ⟨rfl, rfl⟩ (vt rfl))) ?_
  refine WQ.q (QV.q (O.nc ⟨rfl, rfl⟩ (vt rfl))) ?_
  first | refine WQ.q (QV.q (O.fb ⟨rfl, rfl⟩ (vt rfl))) ?_ | refine WQ.q (QV.q (O.fa ⟨rfl, rfl⟩ (vt rfl))) ?_
  refine WQ.q (QV.q (O.ld ⟨rfl, rfl⟩ (vt rfl))) ?_
  refine WQ.q (QV.q (O.ld ⟨rfl, rfl⟩ (vt rfl))) ?_
  refine WQ.q (QV.q (O.addS ⟨rfl, rfl⟩ (vt rfl) (vt rfl) (fun _ => by first | omega | (simp; omega)))) ?_
  refine WQ.q (QV.q (O.nc ⟨rfl, rfl⟩ (vt rfl))) ?_
  first | refine WQ.q (QV.q (O.fb ⟨rfl, rfl⟩ (vt rfl))) ?_ | refine WQ.q (QV.q (O.fa ⟨rfl, rfl⟩ (vt rfl))) ?_
  refine WQ.nil ?_
  refine W.st (vt rfl) (vt rfl) rfl ?_
  refine WL.nil ?_
  exact ⟨_, _, RVs.nil, List.Sublist.refl _, rfl⟩
set_option maxRecDepth 100000 in
theorem disk_Sync1 (d : Dk) : Step 42 [] [] d d.syncd := by
  intro b w hL
  refine Fn.enter Try.func42 rfl rfl rfl rfl hL ?_
  refine CW.region ?_
  refine W.q (QV.q (O.mv ⟨rfl, rfl⟩ (vt rfl))) ?_
  refine W.q (QV.q (O.mv ⟨rfl, rfl⟩ (vt rfl))) ?_
  refine W.q (QV.q (O.nc ⟨rfl, rfl⟩ (vt rfl))) ?_
  first | refine W.q (QV.q (O.fb ⟨rfl, rfl⟩ (vt rfl))) ?_ | refine W.q (QV.q (O.fa ⟨rfl, rfl⟩ (vt rfl))) ?_
  refine W.q (QV.q (O.ld ⟨rfl, rfl⟩ (vt rfl))) ?_
  refine W.q (QV.q (O.len ⟨rfl, rfl⟩ (vt rfl))) ?_
  refine W.q (QV.q (O.nc ⟨rfl, rfl⟩ (vt rfl))) ?_
  first | refine W.q (QV.q (O.fb ⟨rfl, rfl⟩ (vt rfl))) ?_ | refine W.q (QV.q (O.fa ⟨rfl, rfl⟩ (vt rfl))) ?_
  refine W.st (vt rfl) (vt rfl) rfl ?_
  refine WL.nil ?_
  exact ⟨_, _, RVs.nil, List.Sublist.refl _, rfl⟩
set_option maxRecDepth 100000 in
theorem disk_Begin1 (d : Dk) (s : List UInt8) (bs : Nat) : Step 43 [.pointer (some ⟨bs, 0, none⟩)] [Boxs bs s] d (d.beg s) := by
  intro b w hL
  refine Fn.enter Try.func43 rfl rfl rfl rfl hL ?_
  refine CW.drawC [.pin, .flo, .flo, .flo, .pin, .pin, .lou, .flo, .flo, .lou, .flo, .flo, .lou] [Boxs bs s] rfl (by kernel_rfl) (by repeat (first | exact List.nil_sublist _ | exact List.Sublist.refl _ | apply List.Sublist.cons₂ | apply List.Sublist.cons)) ?_
  refine WX.p (QV.q (O.mv ⟨rfl, rfl⟩ (vt rfl))) ?_
  refine WX.f (QV.q (O.mv ⟨rfl, rfl⟩ (vt rfl))) ?_
  refine WX.f (QV.q (O.mv ⟨rfl, rfl⟩ (vt rfl))) ?_
  refine WX.f (QV.q (O.ld ⟨rfl, rfl⟩ (vt rfl))) ?_
  refine WX.p (QV.q (O.nc ⟨rfl, rfl⟩ (vt rfl))) ?_
  first | refine WX.p (QV.q (O.fb ⟨rfl, rfl⟩ (vt rfl))) ?_ | refine WX.p (QV.q (O.fa ⟨rfl, rfl⟩ (vt rfl))) ?_
  refine WX.l (O.st (vt rfl) (vt rfl) rfl) (by repeat (first | exact List.nil_sublist _ | exact List.Sublist.refl _ | apply List.Sublist.cons₂ | apply List.Sublist.cons)) ?_
  refine WX.f (QV.q (O.nc ⟨rfl, rfl⟩ (vt rfl))) ?_
  first | refine WX.f (QV.q (O.fb ⟨rfl, rfl⟩ (vt rfl))) ?_ | refine WX.f (QV.q (O.fa ⟨rfl, rfl⟩ (vt rfl))) ?_
  refine WX.l (O.st (vt rfl) (vt rfl) rfl) (by repeat (first | exact List.nil_sublist _ | exact List.Sublist.refl _ | apply List.Sublist.cons₂ | apply List.Sublist.cons)) ?_
  refine WX.f (QV.q (O.nc ⟨rfl, rfl⟩ (vt rfl))) ?_
  first | refine WX.f (QV.q (O.fb ⟨rfl, rfl⟩ (vt rfl))) ?_ | refine WX.f (QV.q (O.fa ⟨rfl, rfl⟩ (vt rfl))) ?_
  refine WX.l (O.st (vt rfl) (vt rfl) rfl) (by repeat (first | exact List.nil_sublist _ | exact List.Sublist.refl _ | apply List.Sublist.cons₂ | apply List.Sublist.cons)) ?_
  refine WX.nil ?_
  exact ⟨_, _, RVs.nil, List.Sublist.refl _, rfl⟩
set_option maxRecDepth 100000 in
theorem disk_Settle1 (d : Dk) : Step 44 [] [] d d.set := by
  intro b w hL
  refine Fn.enter Try.func44 rfl rfl rfl rfl hL ?_
  refine CW.region ?_
  refine W.q (QV.q (O.mv ⟨rfl, rfl⟩ (vt rfl))) ?_
  refine W.q (QV.q (O.mv ⟨rfl, rfl⟩ (vt rfl))) ?_
  refine W.q (QV.q (O.nc ⟨rfl, rfl⟩ (vt rfl))) ?_
  first | refine W.q (QV.q (O.fb ⟨rfl, rfl⟩ (vt rfl))) ?_ | refine W.q (QV.q (O.fa ⟨rfl, rfl⟩ (vt rfl))) ?_
  refine W.q (QV.q (O.ld ⟨rfl, rfl⟩ (vt rfl))) ?_
  refine W.q (QV.q (O.len ⟨rfl, rfl⟩ (vt rfl))) ?_
  refine W.q (QV.q (O.nc ⟨rfl, rfl⟩ (vt rfl))) ?_
  first | refine W.q (QV.q (O.fb ⟨rfl, rfl⟩ (vt rfl))) ?_ | refine W.q (QV.q (O.fa ⟨rfl, rfl⟩ (vt rfl))) ?_
  refine W.st (vt rfl) (vt rfl) rfl ?_
  refine WL.nil ?_
  exact ⟨_, _, RVs.nil, List.Sublist.refl _, rfl⟩
set_option maxRecDepth 100000 in
theorem disk_Swap1 (d : Dk) : Step 45 [] [] d d.swp := by
  intro b w hL
  refine Fn.enter Try.func45 rfl rfl rfl rfl hL ?_
  refine CW.draw 11 rfl (by kernel_rfl) ?_
  refine WQ.q (QV.q (O.mv ⟨rfl, rfl⟩ (vt rfl))) ?_
  refine WQ.q (QV.q (O.mv ⟨rfl, rfl⟩ (vt rfl))) ?_
  refine WQ.q (QV.q (O.nc ⟨rfl, rfl⟩ (vt rfl))) ?_
  first | refine WQ.q (QV.q (O.fb ⟨rfl, rfl⟩ (vt rfl))) ?_ | refine WQ.q (QV.q (O.fa ⟨rfl, rfl⟩ (vt rfl))) ?_
  refine WQ.q (QV.q (O.ld ⟨rfl, rfl⟩ (vt rfl))) ?_
  refine WQ.q (QV.q (O.mv ⟨rfl, rfl⟩ (vt rfl))) ?_
  refine WQ.q (QV.q (O.nc ⟨rfl, rfl⟩ (vt rfl))) ?_
  first | refine WQ.q (QV.q (O.fb ⟨rfl, rfl⟩ (vt rfl))) ?_ | refine WQ.q (QV.q (O.fa ⟨rfl, rfl⟩ (vt rfl))) ?_
  refine WQ.q (QV.q (O.ld ⟨rfl, rfl⟩ (vt rfl))) ?_
  refine WQ.q (QV.q (O.bd ⟨rfl, rfl⟩ (PV.cons (vt rfl) (PV.cons (vt rfl) (PV.nil))))) ?_
  refine WQ.q (QV.q (O.nc ⟨rfl, rfl⟩ (vt rfl))) ?_
  refine WQ.nil ?_
  refine W.st (vt rfl) (vt rfl) rfl ?_
  refine WL.nil ?_
  exact ⟨_, _, RVs.nil, List.Sublist.refl _, rfl⟩
set_option maxRecDepth 100000 in
theorem disk_Crash1 (d : Dk) (k : Int) (bs : Nat) (hm : d.may = true) (hk : 0 ≤ k) : Step 46 [.pointer (some ⟨bs, 0, none⟩)] [Boxi bs k] d (d.cut k) := by
  intro b w hL
  obtain ⟨_, h1, h2, h3, h4, h5⟩ := d.may_iff.1 hm
  refine Fn.enter Try.func46 rfl rfl rfl rfl hL ?_
  refine CW.seq ?_
  refine CW.draw 18 rfl (by kernel_rfl) ?_
  refine WQ.q (QV.q (O.mv ⟨rfl, rfl⟩ (vt rfl))) ?_
  refine WQ.q (QV.q (O.nc ⟨rfl, rfl⟩ (vt rfl))) ?_
  first | refine WQ.q (QV.q (O.fb ⟨rfl, rfl⟩ (vt rfl))) ?_ | refine WQ.q (QV.q (O.fa ⟨rfl, rfl⟩ (vt rfl))) ?_
  refine WQ.q (QV.q (O.ld ⟨rfl, rfl⟩ (vt rfl))) ?_
  refine WQ.q (QV.q (O.ld ⟨rfl, rfl⟩ (vt rfl))) ?_
  refine WQ.q (QV.q (O.mv ⟨rfl, rfl⟩ (vt rfl))) ?_
  refine WQ.q (QV.q (O.nc ⟨rfl, rfl⟩ (vt rfl))) ?_
  first | refine WQ.q (QV.q (O.fb ⟨rfl, rfl⟩ (vt rfl))) ?_ | refine WQ.q (QV.q (O.fa ⟨rfl, rfl⟩ (vt rfl))) ?_
  refine WQ.q (QV.q (O.ld ⟨rfl, rfl⟩ (vt rfl))) ?_
  refine WQ.q (QV.q (O.len ⟨rfl, rfl⟩ (vt rfl))) ?_
  refine WQ.q (QV.q (O.mv ⟨rfl, rfl⟩ (vt rfl))) ?_
  refine WQ.q (QV.q (O.nc ⟨rfl, rfl⟩ (vt rfl))) ?_
  first | refine WQ.q (QV.q (O.fb ⟨rfl, rfl⟩ (vt rfl))) ?_ | refine WQ.q (QV.q (O.fa ⟨rfl, rfl⟩ (vt rfl))) ?_
  refine WQ.q (QV.q (O.ld ⟨rfl, rfl⟩ (vt rfl))) ?_
  first | refine WQ.q (QV.q (O.subN ⟨rfl, rfl⟩ (vt rfl) (vt rfl) (fun _ => by omega))) ?_ | refine WQ.q (QV.q (O.sub ⟨rfl, rfl⟩ (vt rfl) (vt rfl))) ?_
  refine WQ.q (QV.q (O.min ⟨rfl, rfl⟩ (vt rfl) (vt rfl))) ?_
  first | refine WQ.q (QV.q (O.addN ⟨rfl, rfl⟩ (vt rfl) (vt rfl) (fun _ => by omega))) ?_ | refine WQ.q (QV.q (O.add ⟨rfl, rfl⟩ (vt rfl) (vt rfl))) ?_
  refine WQ.q (QV.q (O.as ⟨rfl, rfl⟩ (vt rfl))) ?_
  refine WQ.nil ?_
  refine WL.nil (Q.tn ?_)
  refine CW.region ?_
  refine W.q (QV.q (O.mv ⟨rfl, rfl⟩ (vt rfl))) ?_
  refine W.q (QV.q (O.mv ⟨rfl, rfl⟩ (vt rfl))) ?_
  refine W.q (QV.q (O.nc ⟨rfl, rfl⟩ (vt rfl))) ?_
  first | refine W.q (QV.q (O.fb ⟨rfl, rfl⟩ (vt rfl))) ?_ | refine W.q (QV.q (O.fa ⟨rfl, rfl⟩ (vt rfl))) ?_
  refine W.q (QV.q (O.ld ⟨rfl, rfl⟩ (vt rfl))) ?_
  refine W.q (QV.q (O.mv ⟨rfl, rfl⟩ (vt rfl))) ?_
  refine W.q (QV.q (O.slcH ⟨rfl, rfl⟩ (vt rfl) (vt rfl) (fun _ => by omega))) ?_
  refine W.q (QV.q (O.mv ⟨rfl, rfl⟩ (vt rfl))) ?_
  refine W.q (QV.q (O.bd ⟨rfl, rfl⟩ (PV.cons (vt rfl) (PV.cons (vt rfl) (PV.nil))))) ?_
  refine W.q (QV.q (O.nc ⟨rfl, rfl⟩ (vt rfl))) ?_
  refine W.st (vt rfl) (vt rfl) rfl ?_
  refine WL.nil ?_
  exact ⟨_, _, RVs.nil, List.Sublist.refl _, rfl⟩
/-! the calls -/
set_option maxRecDepth 100000 in
theorem disk_Append (d : Dk) (s : List UInt8) (w : World) (hf : d.fit) (hf' : (d.app s).fit) (h1 : d.log.length ≤ big) (h2 : s.length ≤ big) : Fn Try.prog 13 [.agg d.cells.toArray, .string (S s)] w [] fun v L' => v = .tuple #[.agg (d.turned true (d.app s)).1.cells.toArray, .int .i64 (d.turned true (d.app s)).2] ∧ L' = [] := by
  refine Fn.enter Try.func13 rfl rfl rfl rfl (Holds.nil w) ?_
  refine CW.seq ?_
  refine CW.region ?_
  refine W.bx rfl (vt rfl) rfl fun b1 => ?_
  refine W.bx rfl (vt rfl) rfl fun b2 => ?_
  refine W.al rfl rfl fun b3 => ?_
  refine W.q (QV.q (O.as ⟨rfl, rfl⟩ (vt rfl))) ?_
  refine WL.nil (Q.tn ?_)
  refine CW.seq ?_
  refine CW.region ?_
  refine W.q (QV.q (O.lds ⟨rfl, rfl⟩ (vt rfl))) ?_
  refine W.q (QV.q (O.mf ⟨rfl, rfl⟩ (AV.nil) (AV.cons (vt rfl) (AV.nil)))) ?_
  refine W.call (first := []) (cap := []) [Boxs b2 s] [(b3, .cells Dk.zero.cells.toArray 23 (0, 0)), (b1, .cells d.cells.toArray 23 (0, 0))] rfl (vt rfl) (AV.cons (vt rfl) (AV.cons (vt rfl) (AV.cons (vt rfl) (AV.nil)))) (by first | exact List.Perm.refl _ | exact List.Perm.swap _ _ _) (fun w _ hw => disk_turned d (d.app s) true 41 [.pointer (some ⟨b2, 0, none⟩)] [Boxs b2 s] w hf hf' (fun _ => disk_Append1 d s b2 h1 h2) hw) ?_; rintro _ _ ⟨rfl, rfl⟩
  refine W.q (QV.q (O.ext ⟨rfl, rfl⟩ (vt rfl) rfl)) ?_
  refine W.q (QV.q (O.ext ⟨rfl, rfl⟩ (vt rfl) rfl)) ?_
  refine W.st (vt rfl) (vt rfl) rfl ?_
  refine W.q (QV.q (O.as ⟨rfl, rfl⟩ (vt rfl))) ?_
  refine WL.nil (Q.tn ?_)
  refine CW.ret ?_
  refine ⟨_, [], (RVs.cell rfl (RVs.tmp rfl RVs.nil)), List.nil_sublist _, ?_⟩
  exact ⟨rfl, rfl⟩
set_option maxRecDepth 100000 in
theorem disk_Sync (d : Dk)  (w : World) (hf : d.fit) (hf' : d.syncd.fit) : Fn Try.prog 15 [.agg d.cells.toArray] w [] fun v L' => v = .tuple #[.agg (d.turned true d.syncd).1.cells.toArray, .int .i64 (d.turned true d.syncd).2] ∧ L' = [] := by
  refine Fn.enter Try.func15 rfl rfl rfl rfl (Holds.nil w) ?_
  refine CW.seq ?_
  refine CW.region ?_
  refine W.bx rfl (vt rfl) rfl fun b1 => ?_
  refine W.al rfl rfl fun b2 => ?_
  refine W.q (QV.q (O.as ⟨rfl, rfl⟩ (vt rfl))) ?_
  refine WL.nil (Q.tn ?_)
  refine CW.seq ?_
  refine CW.region ?_
  refine W.q (QV.q (O.lds ⟨rfl, rfl⟩ (vt rfl))) ?_
  refine W.call (first := []) (cap := []) [] [(b2, .cells Dk.zero.cells.toArray 23 (0, 0)), (b1, .cells d.cells.toArray 23 (0, 0))] rfl (vt rfl) (AV.cons (vt rfl) (AV.cons (vt rfl) (AV.cons (vt rfl) (AV.nil)))) (by first | exact List.Perm.refl _ | exact List.Perm.swap _ _ _) (fun w _ hw => disk_turned d d.syncd true 42 [] [] w hf hf' (fun _ => disk_Sync1 d) hw) ?_; rintro _ _ ⟨rfl, rfl⟩
  refine W.q (QV.q (O.ext ⟨rfl, rfl⟩ (vt rfl) rfl)) ?_
  refine W.q (QV.q (O.ext ⟨rfl, rfl⟩ (vt rfl) rfl)) ?_
  refine W.st (vt rfl) (vt rfl) rfl ?_
  refine W.q (QV.q (O.as ⟨rfl, rfl⟩ (vt rfl))) ?_
  refine WL.nil (Q.tn ?_)
  refine CW.ret ?_
  refine ⟨_, [], (RVs.cell rfl (RVs.tmp rfl RVs.nil)), List.nil_sublist _, ?_⟩
  exact ⟨rfl, rfl⟩
set_option maxRecDepth 100000 in
theorem disk_Begin (d : Dk) (s : List UInt8) (w : World) (hf : d.fit) (hf' : (d.beg s).fit) (h2 : s.length ≤ big) : Fn Try.prog 17 [.agg d.cells.toArray, .string (S s)] w [] fun v L' => v = .tuple #[.agg (d.turned true (d.beg s)).1.cells.toArray, .int .i64 (d.turned true (d.beg s)).2] ∧ L' = [] := by
  refine Fn.enter Try.func17 rfl rfl rfl rfl (Holds.nil w) ?_
  refine CW.seq ?_
  refine CW.region ?_
  refine W.bx rfl (vt rfl) rfl fun b1 => ?_
  refine W.bx rfl (vt rfl) rfl fun b2 => ?_
  refine W.al rfl rfl fun b3 => ?_
  refine W.q (QV.q (O.as ⟨rfl, rfl⟩ (vt rfl))) ?_
  refine WL.nil (Q.tn ?_)
  refine CW.seq ?_
  refine CW.region ?_
  refine W.q (QV.q (O.lds ⟨rfl, rfl⟩ (vt rfl))) ?_
  refine W.q (QV.q (O.mf ⟨rfl, rfl⟩ (AV.nil) (AV.cons (vt rfl) (AV.nil)))) ?_
  refine W.call (first := []) (cap := []) [Boxs b2 s] [(b3, .cells Dk.zero.cells.toArray 23 (0, 0)), (b1, .cells d.cells.toArray 23 (0, 0))] rfl (vt rfl) (AV.cons (vt rfl) (AV.cons (vt rfl) (AV.cons (vt rfl) (AV.nil)))) (by first | exact List.Perm.refl _ | exact List.Perm.swap _ _ _) (fun w _ hw => disk_turned d (d.beg s) true 43 [.pointer (some ⟨b2, 0, none⟩)] [Boxs b2 s] w hf hf' (fun _ => disk_Begin1 d s b2) hw) ?_; rintro _ _ ⟨rfl, rfl⟩
  refine W.q (QV.q (O.ext ⟨rfl, rfl⟩ (vt rfl) rfl)) ?_
  refine W.q (QV.q (O.ext ⟨rfl, rfl⟩ (vt rfl) rfl)) ?_
  refine W.st (vt rfl) (vt rfl) rfl ?_
  refine W.q (QV.q (O.as ⟨rfl, rfl⟩ (vt rfl))) ?_
  refine WL.nil (Q.tn ?_)
  refine CW.ret ?_
  refine ⟨_, [], (RVs.cell rfl (RVs.tmp rfl RVs.nil)), List.nil_sublist _, ?_⟩
  exact ⟨rfl, rfl⟩
set_option maxRecDepth 100000 in
theorem disk_Settle (d : Dk)  (w : World) (hf : d.fit) (hf' : d.set.fit) : Fn Try.prog 19 [.agg d.cells.toArray] w [] fun v L' => v = .tuple #[.agg (d.turned d.bes d.set).1.cells.toArray, .int .i64 (d.turned d.bes d.set).2] ∧ L' = [] := by
  refine Fn.enter Try.func19 rfl rfl rfl rfl (Holds.nil w) ?_
  refine CW.seq ?_
  refine CW.region ?_
  refine W.bx rfl (vt rfl) rfl fun b1 => ?_
  refine W.al rfl rfl fun b2 => ?_
  refine W.q (QV.q (O.as ⟨rfl, rfl⟩ (vt rfl))) ?_
  refine WL.nil (Q.tn ?_)
  refine CW.seq ?_
  refine CW.region ?_
  refine W.q (QV.q (O.lds ⟨rfl, rfl⟩ (vt rfl))) ?_
  first | refine W.q (QV.q (O.fb ⟨rfl, rfl⟩ (vt rfl))) ?_ | refine W.q (QV.q (O.fa ⟨rfl, rfl⟩ (vt rfl))) ?_
  refine W.q (QV.q (O.ld ⟨rfl, rfl⟩ (vt rfl))) ?_
  refine W.call (first := []) (cap := []) [] [(b2, .cells Dk.zero.cells.toArray 23 (0, 0)), (b1, .cells d.cells.toArray 23 (0, 0))] rfl (vt rfl) (AV.cons (vt rfl) (AV.cons (vt rfl) (AV.cons (vt rfl) (AV.nil)))) (by first | exact List.Perm.refl _ | exact List.Perm.swap _ _ _) (fun w _ hw => disk_turned d d.set d.bes 44 [] [] w hf hf' (fun _ => disk_Settle1 d) hw) ?_; rintro _ _ ⟨rfl, rfl⟩
  refine W.q (QV.q (O.ext ⟨rfl, rfl⟩ (vt rfl) rfl)) ?_
  refine W.q (QV.q (O.ext ⟨rfl, rfl⟩ (vt rfl) rfl)) ?_
  refine W.st (vt rfl) (vt rfl) rfl ?_
  refine W.q (QV.q (O.as ⟨rfl, rfl⟩ (vt rfl))) ?_
  refine WL.nil (Q.tn ?_)
  refine CW.ret ?_
  refine ⟨_, [], (RVs.cell rfl (RVs.tmp rfl RVs.nil)), List.nil_sublist _, ?_⟩
  exact ⟨rfl, rfl⟩
set_option maxRecDepth 100000 in
theorem disk_Swap (d : Dk)  (w : World) (hf : d.fit) (hf' : d.swp.fit) : Fn Try.prog 21 [.agg d.cells.toArray] w [] fun v L' => v = .tuple #[.agg (d.turned d.bes d.swp).1.cells.toArray, .int .i64 (d.turned d.bes d.swp).2] ∧ L' = [] := by
  refine Fn.enter Try.func21 rfl rfl rfl rfl (Holds.nil w) ?_
  refine CW.seq ?_
  refine CW.region ?_
  refine W.bx rfl (vt rfl) rfl fun b1 => ?_
  refine W.al rfl rfl fun b2 => ?_
  refine W.q (QV.q (O.as ⟨rfl, rfl⟩ (vt rfl))) ?_
  refine WL.nil (Q.tn ?_)
  refine CW.seq ?_
  refine CW.region ?_
  refine W.q (QV.q (O.lds ⟨rfl, rfl⟩ (vt rfl))) ?_
  first | refine W.q (QV.q (O.fb ⟨rfl, rfl⟩ (vt rfl))) ?_ | refine W.q (QV.q (O.fa ⟨rfl, rfl⟩ (vt rfl))) ?_
  refine W.q (QV.q (O.ld ⟨rfl, rfl⟩ (vt rfl))) ?_
  refine W.call (first := []) (cap := []) [] [(b2, .cells Dk.zero.cells.toArray 23 (0, 0)), (b1, .cells d.cells.toArray 23 (0, 0))] rfl (vt rfl) (AV.cons (vt rfl) (AV.cons (vt rfl) (AV.cons (vt rfl) (AV.nil)))) (by first | exact List.Perm.refl _ | exact List.Perm.swap _ _ _) (fun w _ hw => disk_turned d d.swp d.bes 45 [] [] w hf hf' (fun _ => disk_Swap1 d) hw) ?_; rintro _ _ ⟨rfl, rfl⟩
  refine W.q (QV.q (O.ext ⟨rfl, rfl⟩ (vt rfl) rfl)) ?_
  refine W.q (QV.q (O.ext ⟨rfl, rfl⟩ (vt rfl) rfl)) ?_
  refine W.st (vt rfl) (vt rfl) rfl ?_
  refine W.q (QV.q (O.as ⟨rfl, rfl⟩ (vt rfl))) ?_
  refine WL.nil (Q.tn ?_)
  refine CW.ret ?_
  refine ⟨_, [], (RVs.cell rfl (RVs.tmp rfl RVs.nil)), List.nil_sublist _, ?_⟩
  exact ⟨rfl, rfl⟩
set_option maxRecDepth 100000 in
theorem disk_Crash (d : Dk) (k : Int) (w : World) (hf : d.fit) (hf' : (d.cut k).fit) : Fn Try.prog 23 [.agg d.cells.toArray, .int .i64 k] w [] fun v L' => v = .tuple #[.agg (d.turned (decide (0 ≤ k)) (d.cut k)).1.cells.toArray, .int .i64 (d.turned (decide (0 ≤ k)) (d.cut k)).2] ∧ L' = [] := by
  refine Fn.enter Try.func23 rfl rfl rfl rfl (Holds.nil w) ?_
  refine CW.seq ?_
  refine CW.region ?_
  refine W.bx rfl (vt rfl) rfl fun b1 => ?_
  refine W.bx rfl (vt rfl) rfl fun b2 => ?_
  refine W.al rfl rfl fun b3 => ?_
  refine W.q (QV.q (O.as ⟨rfl, rfl⟩ (vt rfl))) ?_
  refine WL.nil (Q.tn ?_)
  refine CW.seq ?_
  refine CW.region ?_
  refine W.q (QV.q (O.lds ⟨rfl, rfl⟩ (vt rfl))) ?_
  refine W.q (QV.q (O.ld ⟨rfl, rfl⟩ (vt rfl))) ?_
  refine W.q (QV.q (O.geq ⟨rfl, rfl⟩ (vt rfl) (vt rfl))) ?_
  refine W.q (QV.q (O.mf ⟨rfl, rfl⟩ (AV.nil) (AV.cons (vt rfl) (AV.nil)))) ?_
  refine W.call (first := []) (cap := []) [Boxi b2 k] [(b3, .cells Dk.zero.cells.toArray 23 (0, 0)), (b1, .cells d.cells.toArray 23 (0, 0))] rfl (vt rfl) (AV.cons (vt rfl) (AV.cons (vt rfl) (AV.cons (vt rfl) (AV.nil)))) (by first | exact List.Perm.refl _ | exact List.Perm.swap _ _ _) (fun w _ hw => disk_turned d (d.cut k) (decide (0 ≤ k)) 46 [.pointer (some ⟨b2, 0, none⟩)] [Boxi b2 k] w hf hf' (fun hm => disk_Crash1 d k b2 (by simp_all) (by simp_all)) hw) ?_; rintro _ _ ⟨rfl, rfl⟩
  refine W.q (QV.q (O.ext ⟨rfl, rfl⟩ (vt rfl) rfl)) ?_
  refine W.q (QV.q (O.ext ⟨rfl, rfl⟩ (vt rfl) rfl)) ?_
  refine W.st (vt rfl) (vt rfl) rfl ?_
  refine W.q (QV.q (O.as ⟨rfl, rfl⟩ (vt rfl))) ?_
  refine WL.nil (Q.tn ?_)
  refine CW.ret ?_
  refine ⟨_, [], (RVs.cell rfl (RVs.tmp rfl RVs.nil)), List.nil_sublist _, ?_⟩
  exact ⟨rfl, rfl⟩
/-! the reference -/
def refMay (d : Dk) : Bool := decide ((d.log.length : Int) + d.nxt.length ≤ 2048) && decide (0 ≤ d.syn) && decide (d.syn ≤ d.log.length) && decide (0 ≤ d.kep) && decide (d.kep ≤ d.nxt.length) && (d.bes || decide (d.nxt = []))
theorem refMay_eq (d : Dk) : refMay d = d.may := by
  rw [Bool.eq_iff_iff, Dk.may_iff]
  simp only [refMay, Bool.and_eq_true, Bool.or_eq_true, decide_eq_true_eq, and_assoc]
  constructor
  · rintro ⟨h1, h2, h3, h4, h5, h6⟩
    refine ⟨?_, by omega, h2, h3, h4, h5⟩
    rcases h6 with h6 | h6
    · exact .inl h6
    · right; refine ⟨h6, ?_⟩; rw [h6] at h5; simp at h5; omega
  · rintro ⟨h1, h2, h3, h4, h5, h6⟩
    exact ⟨by omega, h3, h4, h5, h6, h1.imp id (·.1)⟩
set_option maxRecDepth 100000 in
theorem ref_DiskMay (d : Dk) (w : World) (hf : d.fit) : Fn Try.prog 27 [.agg d.cells.toArray] w [] fun v L' => v = .bool d.may ∧ L' = [] := by
  obtain ⟨h1, h2⟩ := hf
  simp only [big] at h1 h2
  refine Fn.enter Try.func27 rfl rfl rfl rfl (Holds.nil w) ?_
  refine CW.seq ?_
  refine CW.region ?_
  refine W.bx rfl (vt rfl) rfl fun b1 => ?_
  refine W.q (QV.q (O.as ⟨rfl, rfl⟩ (vt rfl))) ?_
  refine WL.nil (Q.tn ?_)
  refine CW.seq ?_
  refine CW.region ?_
  first | refine W.q (QV.q (O.fb ⟨rfl, rfl⟩ (vt rfl))) ?_ | refine W.q (QV.q (O.fa ⟨rfl, rfl⟩ (vt rfl))) ?_
  refine W.q (QV.q (O.ld ⟨rfl, rfl⟩ (vt rfl))) ?_
  refine W.q (QV.q (O.len ⟨rfl, rfl⟩ (vt rfl))) ?_
  first | refine W.q (QV.q (O.fb ⟨rfl, rfl⟩ (vt rfl))) ?_ | refine W.q (QV.q (O.fa ⟨rfl, rfl⟩ (vt rfl))) ?_
  refine W.q (QV.q (O.ld ⟨rfl, rfl⟩ (vt rfl))) ?_
  refine W.q (QV.q (O.len ⟨rfl, rfl⟩ (vt rfl))) ?_
  first | refine W.q (QV.q (O.addN ⟨rfl, rfl⟩ (vt rfl) (vt rfl) (fun _ => by omega))) ?_ | refine W.q (QV.q (O.add ⟨rfl, rfl⟩ (vt rfl) (vt rfl))) ?_
  refine W.q (QV.q (O.leq ⟨rfl, rfl⟩ (vt rfl) (vt rfl))) ?_
  refine W.q (QV.q (O.mv ⟨rfl, rfl⟩ (vt rfl))) ?_
  first | refine W.q (QV.q (O.fb ⟨rfl, rfl⟩ (vt rfl))) ?_ | refine W.q (QV.q (O.fa ⟨rfl, rfl⟩ (vt rfl))) ?_
  refine W.q (QV.q (O.ld ⟨rfl, rfl⟩ (vs rfl))) ?_
  refine W.q (QV.q (O.geq ⟨rfl, rfl⟩ (vs rfl) (vt rfl))) ?_
  refine W.q (QV.q (O.pkB ⟨rfl, rfl⟩ (vt rfl) (vs rfl) (vt rfl))) ?_
  refine W.q (QV.q (O.mv ⟨rfl, rfl⟩ (vt rfl))) ?_
  first | refine W.q (QV.q (O.fb ⟨rfl, rfl⟩ (vt rfl))) ?_ | refine W.q (QV.q (O.fa ⟨rfl, rfl⟩ (vt rfl))) ?_
  refine W.q (QV.q (O.ld ⟨rfl, rfl⟩ (vs rfl))) ?_
  first | refine W.q (QV.q (O.fb ⟨rfl, rfl⟩ (vt rfl))) ?_ | refine W.q (QV.q (O.fa ⟨rfl, rfl⟩ (vt rfl))) ?_
  refine W.q (QV.q (O.ld ⟨rfl, rfl⟩ (vs rfl))) ?_
  refine W.q (QV.q (O.len ⟨rfl, rfl⟩ (vs rfl))) ?_
  refine W.q (QV.q (O.leq ⟨rfl, rfl⟩ (vs rfl) (vs rfl))) ?_
  refine W.q (QV.q (O.pkB ⟨rfl, rfl⟩ (vt rfl) (vs rfl) (vt rfl))) ?_
  refine W.q (QV.q (O.mv ⟨rfl, rfl⟩ (vt rfl))) ?_
  first | refine W.q (QV.q (O.fb ⟨rfl, rfl⟩ (vt rfl))) ?_ | refine W.q (QV.q (O.fa ⟨rfl, rfl⟩ (vt rfl))) ?_
  refine W.q (QV.q (O.ld ⟨rfl, rfl⟩ (vs rfl))) ?_
  refine W.q (QV.q (O.geq ⟨rfl, rfl⟩ (vs rfl) (vt rfl))) ?_
  refine W.q (QV.q (O.pkB ⟨rfl, rfl⟩ (vt rfl) (vs rfl) (vt rfl))) ?_
  refine W.q (QV.q (O.mv ⟨rfl, rfl⟩ (vt rfl))) ?_
  first | refine W.q (QV.q (O.fb ⟨rfl, rfl⟩ (vt rfl))) ?_ | refine W.q (QV.q (O.fa ⟨rfl, rfl⟩ (vt rfl))) ?_
  refine W.q (QV.q (O.ld ⟨rfl, rfl⟩ (vs rfl))) ?_
  first | refine W.q (QV.q (O.fb ⟨rfl, rfl⟩ (vt rfl))) ?_ | refine W.q (QV.q (O.fa ⟨rfl, rfl⟩ (vt rfl))) ?_
  refine W.q (QV.q (O.ld ⟨rfl, rfl⟩ (vs rfl))) ?_
  refine W.q (QV.q (O.len ⟨rfl, rfl⟩ (vs rfl))) ?_
  refine W.q (QV.q (O.leq ⟨rfl, rfl⟩ (vs rfl) (vs rfl))) ?_
  refine W.q (QV.q (O.pkB ⟨rfl, rfl⟩ (vt rfl) (vs rfl) (vt rfl))) ?_
  refine W.q (QV.q (O.mv ⟨rfl, rfl⟩ (vt rfl))) ?_
  first | refine W.q (QV.q (O.fb ⟨rfl, rfl⟩ (vt rfl))) ?_ | refine W.q (QV.q (O.fa ⟨rfl, rfl⟩ (vt rfl))) ?_
  refine W.q (QV.q (O.ld ⟨rfl, rfl⟩ (vs rfl))) ?_
  refine W.q (QV.q (O.mv ⟨rfl, rfl⟩ (vs rfl))) ?_
  first | refine W.q (QV.q (O.fb ⟨rfl, rfl⟩ (vt rfl))) ?_ | refine W.q (QV.q (O.fa ⟨rfl, rfl⟩ (vt rfl))) ?_
  refine W.q (QV.q (O.ld ⟨rfl, rfl⟩ (vs rfl))) ?_
  refine W.q (QV.q (O.eqS ⟨rfl, rfl⟩ (vs rfl) (vt rfl))) ?_
  refine W.q (QV.q (O.pkB ⟨rfl, rfl⟩ (vs rfl) (vt rfl) (vs rfl))) ?_
  refine W.q (QV.q (O.pkB ⟨rfl, rfl⟩ (vt rfl) (vs rfl) (vt rfl))) ?_
  refine W.q (QV.q (O.as ⟨rfl, rfl⟩ (vt rfl))) ?_
  refine WL.nil (Q.tn ?_)
  refine CW.ret ?_
  refine ⟨_, [], (RVs.tmp rfl RVs.nil), List.nil_sublist _, ?_⟩
  refine ⟨congrArg Value.bool ?_, rfl⟩
  rw [← refMay_eq]; simp only [refMay, Bool.cond_false_right, Bool.cond_true_left]
set_option maxRecDepth 100000 in
theorem ref_Append (d : Dk) (s : List UInt8) (w : World) (hf : d.fit) (h2 : s.length ≤ big) : Fn Try.prog 14 [.agg d.cells.toArray, .string (S s)] w [] fun v L' => v = .tuple #[.agg (d.turned true (d.app s)).1.cells.toArray, .int .i64 (d.turned true (d.app s)).2] ∧ L' = [] := by
  have h1 := hf
  simp only [Dk.fit, big] at h1 h2
  refine Fn.enter Try.func14 rfl rfl rfl rfl (Holds.nil w) ?_
  refine CW.seq ?_
  refine CW.region ?_
  refine W.bx rfl (vt rfl) rfl fun b1 => ?_
  refine W.al rfl rfl fun b2 => ?_
  refine W.q (QV.q (O.as ⟨rfl, rfl⟩ (vt rfl))) ?_
  refine WL.nil (Q.tn ?_)
  refine CW.seq ?_
  refine CW.seq ?_
  refine CW.region ?_
  refine W.q (QV.q (O.lds ⟨rfl, rfl⟩ (vt rfl))) ?_
  refine W.q (O.call ⟨rfl, rfl⟩ (AV.cons (vt rfl) (AV.nil)) (fun _ w hw => ref_DiskMay _ w (by assumption))) ?_
  refine W.q (QV.q (O.nt ⟨rfl, rfl⟩ (vt rfl))) ?_
  refine WL.nil (Q.tn ?_)
  refine CW.cond (vt rfl) (fun hc1 => ?_) (fun hc1 => ?_)
  · refine CW.seq ?_
    refine CW.region ?_
    refine W.q (QV.q (O.bd ⟨rfl, rfl⟩ (PV.nil))) ?_
    refine W.st (vt rfl) (vt rfl) rfl ?_
    refine W.q (QV.q (O.as ⟨rfl, rfl⟩ (vt rfl))) ?_
    refine WL.nil (Q.tn ?_)
    refine CW.ret (Q.tr ?_)
    refine ⟨_, [], (RVs.cell rfl (RVs.tmp rfl RVs.nil)), List.nil_sublist _, ?_⟩
    refine ⟨?_, rfl⟩; first | (rw [Dk.turned_no (by simpa using hc1)]; rfl) | (rw [Dk.turned_full (by simpa using hc1) (by simp at hc2; simp [Dk.app, Dk.beg]; omega)]; rfl) | (rw [Dk.turned_ok (by simpa using hc1) (by (try simp at hc2); simp [Dk.app, Dk.beg, Dk.syncd, Dk.set, Dk.swp, Dk.cut]; first | omega | (have := (d.may_iff.1 (by simp_all)); omega))]; rfl)
  · refine CW.skip (Q.tn ?_)
    refine CW.seq ?_
    refine CW.seq ?_
    refine CW.region ?_
    first | refine W.q (QV.q (O.fb ⟨rfl, rfl⟩ (vt rfl))) ?_ | refine W.q (QV.q (O.fa ⟨rfl, rfl⟩ (vt rfl))) ?_
    refine W.q (QV.q (O.ld ⟨rfl, rfl⟩ (vt rfl))) ?_
    refine W.q (QV.q (O.len ⟨rfl, rfl⟩ (vt rfl))) ?_
    first | refine W.q (QV.q (O.fb ⟨rfl, rfl⟩ (vt rfl))) ?_ | refine W.q (QV.q (O.fa ⟨rfl, rfl⟩ (vt rfl))) ?_
    refine W.q (QV.q (O.ld ⟨rfl, rfl⟩ (vt rfl))) ?_
    refine W.q (QV.q (O.len ⟨rfl, rfl⟩ (vt rfl))) ?_
    first | refine W.q (QV.q (O.addN ⟨rfl, rfl⟩ (vt rfl) (vt rfl) (fun _ => by omega))) ?_ | refine W.q (QV.q (O.add ⟨rfl, rfl⟩ (vt rfl) (vt rfl))) ?_
    refine W.q (QV.q (O.mv ⟨rfl, rfl⟩ (vt rfl))) ?_
    refine W.q (QV.q (O.len ⟨rfl, rfl⟩ (vt rfl))) ?_
    first | refine W.q (QV.q (O.addN ⟨rfl, rfl⟩ (vt rfl) (vt rfl) (fun _ => by omega))) ?_ | refine W.q (QV.q (O.add ⟨rfl, rfl⟩ (vt rfl) (vt rfl))) ?_
    refine W.q (QV.q (O.gtr ⟨rfl, rfl⟩ (vt rfl) (vt rfl))) ?_
    refine WL.nil (Q.tn ?_)
    refine CW.cond (vt rfl) (fun hc2 => ?_) (fun hc2 => ?_)
    · refine CW.seq ?_
      refine CW.region ?_
      refine W.q (QV.q (O.bd ⟨rfl, rfl⟩ (PV.nil))) ?_
      refine W.st (vt rfl) (vt rfl) rfl ?_
      refine W.q (QV.q (O.as ⟨rfl, rfl⟩ (vt rfl))) ?_
      refine WL.nil (Q.tn ?_)
      refine CW.ret (Q.tr ?_)
      refine ⟨_, [], (RVs.cell rfl (RVs.tmp rfl RVs.nil)), List.nil_sublist _, ?_⟩
      refine ⟨?_, rfl⟩; first | (rw [Dk.turned_no (by simpa using hc1)]; rfl) | (rw [Dk.turned_full (by simpa using hc1) (by simp at hc2; simp [Dk.app, Dk.beg]; omega)]; rfl) | (rw [Dk.turned_ok (by simpa using hc1) (by (try simp at hc2); simp [Dk.app, Dk.beg, Dk.syncd, Dk.set, Dk.swp, Dk.cut]; first | omega | (have := (d.may_iff.1 (by simp_all)); omega))]; rfl)
    · refine CW.skip (Q.tn ?_)
      refine CW.seq ?_
      refine CW.region ?_
      first | refine W.q (QV.q (O.fb ⟨rfl, rfl⟩ (vt rfl))) ?_ | refine W.q (QV.q (O.fa ⟨rfl, rfl⟩ (vt rfl))) ?_
      refine W.q (QV.q (O.ld ⟨rfl, rfl⟩ (vt rfl))) ?_
      refine W.q (QV.q (O.mv ⟨rfl, rfl⟩ (vt rfl))) ?_
      refine W.q (QV.q (O.addS ⟨rfl, rfl⟩ (vt rfl) (vt rfl) (fun _ => by first | omega | (simp; omega)))) ?_
      first | refine W.q (QV.q (O.fb ⟨rfl, rfl⟩ (vt rfl))) ?_ | refine W.q (QV.q (O.fa ⟨rfl, rfl⟩ (vt rfl))) ?_
      refine W.st (vt rfl) (vt rfl) rfl ?_
      refine WL.nil (Q.tn ?_)
      refine CW.seq ?_
      refine CW.region ?_
      refine W.q (QV.q (O.lds ⟨rfl, rfl⟩ (vt rfl))) ?_
      refine W.st (vt rfl) (vt rfl) rfl ?_
      refine W.q (QV.q (O.as ⟨rfl, rfl⟩ (vt rfl))) ?_
      refine WL.nil (Q.tn ?_)
      refine CW.ret ?_
      refine ⟨_, [], (RVs.cell rfl (RVs.tmp rfl RVs.nil)), List.nil_sublist _, ?_⟩
      refine ⟨?_, rfl⟩; first | (rw [Dk.turned_no (by simpa using hc1)]; rfl) | (rw [Dk.turned_full (by simpa using hc1) (by simp at hc2; simp [Dk.app, Dk.beg]; omega)]; rfl) | (rw [Dk.turned_ok (by simpa using hc1) (by (try simp at hc2); simp [Dk.app, Dk.beg, Dk.syncd, Dk.set, Dk.swp, Dk.cut]; first | omega | (have := (d.may_iff.1 (by simp_all)); omega))]; rfl)
set_option maxRecDepth 100000 in
theorem ref_Sync (d : Dk)  (w : World) (hf : d.fit) : Fn Try.prog 16 [.agg d.cells.toArray] w [] fun v L' => v = .tuple #[.agg (d.turned true d.syncd).1.cells.toArray, .int .i64 (d.turned true d.syncd).2] ∧ L' = [] := by
  have h1 := hf
  simp only [Dk.fit, big] at h1
  refine Fn.enter Try.func16 rfl rfl rfl rfl (Holds.nil w) ?_
  refine CW.seq ?_
  refine CW.region ?_
  refine W.bx rfl (vt rfl) rfl fun b1 => ?_
  refine W.al rfl rfl fun b2 => ?_
  refine W.q (QV.q (O.as ⟨rfl, rfl⟩ (vt rfl))) ?_
  refine WL.nil (Q.tn ?_)
  refine CW.seq ?_
  refine CW.seq ?_
  refine CW.region ?_
  refine W.q (QV.q (O.lds ⟨rfl, rfl⟩ (vt rfl))) ?_
  refine W.q (O.call ⟨rfl, rfl⟩ (AV.cons (vt rfl) (AV.nil)) (fun _ w hw => ref_DiskMay _ w (by assumption))) ?_
  refine W.q (QV.q (O.nt ⟨rfl, rfl⟩ (vt rfl))) ?_
  refine WL.nil (Q.tn ?_)
  refine CW.cond (vt rfl) (fun hc1 => ?_) (fun hc1 => ?_)
  · refine CW.seq ?_
    refine CW.region ?_
    refine W.q (QV.q (O.bd ⟨rfl, rfl⟩ (PV.nil))) ?_
    refine W.st (vt rfl) (vt rfl) rfl ?_
    refine W.q (QV.q (O.as ⟨rfl, rfl⟩ (vt rfl))) ?_
    refine WL.nil (Q.tn ?_)
    refine CW.ret (Q.tr ?_)
    refine ⟨_, [], (RVs.cell rfl (RVs.tmp rfl RVs.nil)), List.nil_sublist _, ?_⟩
    refine ⟨?_, rfl⟩; first | (rw [Dk.turned_no (by simpa using hc1)]; rfl) | (rw [Dk.turned_full (by simpa using hc1) (by simp at hc2; simp [Dk.app, Dk.beg]; omega)]; rfl) | (rw [Dk.turned_ok (by simpa using hc1) (by (try simp at hc2); simp [Dk.app, Dk.beg, Dk.syncd, Dk.set, Dk.swp, Dk.cut]; first | omega | (have := (d.may_iff.1 (by simp_all)); omega))]; rfl)
  · refine CW.skip (Q.tn ?_)
    refine CW.seq ?_
    refine CW.region ?_
    first | refine W.q (QV.q (O.fb ⟨rfl, rfl⟩ (vt rfl))) ?_ | refine W.q (QV.q (O.fa ⟨rfl, rfl⟩ (vt rfl))) ?_
    refine W.q (QV.q (O.ld ⟨rfl, rfl⟩ (vt rfl))) ?_
    refine W.q (QV.q (O.len ⟨rfl, rfl⟩ (vt rfl))) ?_
    first | refine W.q (QV.q (O.fb ⟨rfl, rfl⟩ (vt rfl))) ?_ | refine W.q (QV.q (O.fa ⟨rfl, rfl⟩ (vt rfl))) ?_
    refine W.st (vt rfl) (vt rfl) rfl ?_
    refine WL.nil (Q.tn ?_)
    refine CW.seq ?_
    refine CW.region ?_
    refine W.q (QV.q (O.lds ⟨rfl, rfl⟩ (vt rfl))) ?_
    refine W.st (vt rfl) (vt rfl) rfl ?_
    refine W.q (QV.q (O.as ⟨rfl, rfl⟩ (vt rfl))) ?_
    refine WL.nil (Q.tn ?_)
    refine CW.ret ?_
    refine ⟨_, [], (RVs.cell rfl (RVs.tmp rfl RVs.nil)), List.nil_sublist _, ?_⟩
    refine ⟨?_, rfl⟩; first | (rw [Dk.turned_no (by simpa using hc1)]; rfl) | (rw [Dk.turned_full (by simpa using hc1) (by simp at hc2; simp [Dk.app, Dk.beg]; omega)]; rfl) | (rw [Dk.turned_ok (by simpa using hc1) (by (try simp at hc2); simp [Dk.app, Dk.beg, Dk.syncd, Dk.set, Dk.swp, Dk.cut]; first | omega | (have := (d.may_iff.1 (by simp_all)); omega))]; rfl)
set_option maxRecDepth 100000 in
theorem ref_Begin (d : Dk) (s : List UInt8) (w : World) (hf : d.fit) (h2 : s.length ≤ big) : Fn Try.prog 18 [.agg d.cells.toArray, .string (S s)] w [] fun v L' => v = .tuple #[.agg (d.turned true (d.beg s)).1.cells.toArray, .int .i64 (d.turned true (d.beg s)).2] ∧ L' = [] := by
  have h1 := hf
  simp only [Dk.fit, big] at h1 h2
  refine Fn.enter Try.func18 rfl rfl rfl rfl (Holds.nil w) ?_
  refine CW.seq ?_
  refine CW.region ?_
  refine W.bx rfl (vt rfl) rfl fun b1 => ?_
  refine W.al rfl rfl fun b2 => ?_
  refine W.q (QV.q (O.as ⟨rfl, rfl⟩ (vt rfl))) ?_
  refine WL.nil (Q.tn ?_)
  refine CW.seq ?_
  refine CW.seq ?_
  refine CW.region ?_
  refine W.q (QV.q (O.lds ⟨rfl, rfl⟩ (vt rfl))) ?_
  refine W.q (O.call ⟨rfl, rfl⟩ (AV.cons (vt rfl) (AV.nil)) (fun _ w hw => ref_DiskMay _ w (by assumption))) ?_
  refine W.q (QV.q (O.nt ⟨rfl, rfl⟩ (vt rfl))) ?_
  refine WL.nil (Q.tn ?_)
  refine CW.cond (vt rfl) (fun hc1 => ?_) (fun hc1 => ?_)
  · refine CW.seq ?_
    refine CW.region ?_
    refine W.q (QV.q (O.bd ⟨rfl, rfl⟩ (PV.nil))) ?_
    refine W.st (vt rfl) (vt rfl) rfl ?_
    refine W.q (QV.q (O.as ⟨rfl, rfl⟩ (vt rfl))) ?_
    refine WL.nil (Q.tn ?_)
    refine CW.ret (Q.tr ?_)
    refine ⟨_, [], (RVs.cell rfl (RVs.tmp rfl RVs.nil)), List.nil_sublist _, ?_⟩
    refine ⟨?_, rfl⟩; first | (rw [Dk.turned_no (by simpa using hc1)]; rfl) | (rw [Dk.turned_full (by simpa using hc1) (by simp at hc2; simp [Dk.app, Dk.beg]; omega)]; rfl) | (rw [Dk.turned_ok (by simpa using hc1) (by (try simp at hc2); simp [Dk.app, Dk.beg, Dk.syncd, Dk.set, Dk.swp, Dk.cut]; first | omega | (have := (d.may_iff.1 (by simp_all)); omega))]; rfl)
  · refine CW.skip (Q.tn ?_)
    refine CW.seq ?_
    refine CW.seq ?_
    refine CW.region ?_
    first | refine W.q (QV.q (O.fb ⟨rfl, rfl⟩ (vt rfl))) ?_ | refine W.q (QV.q (O.fa ⟨rfl, rfl⟩ (vt rfl))) ?_
    refine W.q (QV.q (O.ld ⟨rfl, rfl⟩ (vt rfl))) ?_
    refine W.q (QV.q (O.len ⟨rfl, rfl⟩ (vt rfl))) ?_
    refine W.q (QV.q (O.mv ⟨rfl, rfl⟩ (vt rfl))) ?_
    refine W.q (QV.q (O.len ⟨rfl, rfl⟩ (vt rfl))) ?_
    first | refine W.q (QV.q (O.addN ⟨rfl, rfl⟩ (vt rfl) (vt rfl) (fun _ => by omega))) ?_ | refine W.q (QV.q (O.add ⟨rfl, rfl⟩ (vt rfl) (vt rfl))) ?_
    refine W.q (QV.q (O.gtr ⟨rfl, rfl⟩ (vt rfl) (vt rfl))) ?_
    refine WL.nil (Q.tn ?_)
    refine CW.cond (vt rfl) (fun hc2 => ?_) (fun hc2 => ?_)
    · refine CW.seq ?_
      refine CW.region ?_
      refine W.q (QV.q (O.bd ⟨rfl, rfl⟩ (PV.nil))) ?_
      refine W.st (vt rfl) (vt rfl) rfl ?_
      refine W.q (QV.q (O.as ⟨rfl, rfl⟩ (vt rfl))) ?_
      refine WL.nil (Q.tn ?_)
      refine CW.ret (Q.tr ?_)
      refine ⟨_, [], (RVs.cell rfl (RVs.tmp rfl RVs.nil)), List.nil_sublist _, ?_⟩
      refine ⟨?_, rfl⟩; first | (rw [Dk.turned_no (by simpa using hc1)]; rfl) | (rw [Dk.turned_full (by simpa using hc1) (by simp at hc2; simp [Dk.app, Dk.beg]; omega)]; rfl) | (rw [Dk.turned_ok (by simpa using hc1) (by (try simp at hc2); simp [Dk.app, Dk.beg, Dk.syncd, Dk.set, Dk.swp, Dk.cut]; first | omega | (have := (d.may_iff.1 (by simp_all)); omega))]; rfl)
    · refine CW.skip (Q.tn ?_)
      refine CW.seq ?_
      refine CW.region ?_
      first | refine W.q (QV.q (O.fb ⟨rfl, rfl⟩ (vt rfl))) ?_ | refine W.q (QV.q (O.fa ⟨rfl, rfl⟩ (vt rfl))) ?_
      refine W.st (vt rfl) (vt rfl) rfl ?_
      refine WL.nil (Q.tn ?_)
      refine CW.seq ?_
      refine CW.region ?_
      refine W.q (QV.q (O.mv ⟨rfl, rfl⟩ (vt rfl))) ?_
      first | refine W.q (QV.q (O.fb ⟨rfl, rfl⟩ (vt rfl))) ?_ | refine W.q (QV.q (O.fa ⟨rfl, rfl⟩ (vt rfl))) ?_
      refine W.st (vt rfl) (vt rfl) rfl ?_
      refine WL.nil (Q.tn ?_)
      refine CW.seq ?_
      refine CW.region ?_
      first | refine W.q (QV.q (O.fb ⟨rfl, rfl⟩ (vt rfl))) ?_ | refine W.q (QV.q (O.fa ⟨rfl, rfl⟩ (vt rfl))) ?_
      refine W.st (vt rfl) (vt rfl) rfl ?_
      refine WL.nil (Q.tn ?_)
      refine CW.seq ?_
      refine CW.region ?_
      refine W.q (QV.q (O.lds ⟨rfl, rfl⟩ (vt rfl))) ?_
      refine W.st (vt rfl) (vt rfl) rfl ?_
      refine W.q (QV.q (O.as ⟨rfl, rfl⟩ (vt rfl))) ?_
      refine WL.nil (Q.tn ?_)
      refine CW.ret ?_
      refine ⟨_, [], (RVs.cell rfl (RVs.tmp rfl RVs.nil)), List.nil_sublist _, ?_⟩
      refine ⟨?_, rfl⟩; first | (rw [Dk.turned_no (by simpa using hc1)]; rfl) | (rw [Dk.turned_full (by simpa using hc1) (by simp at hc2; simp [Dk.app, Dk.beg]; omega)]; rfl) | (rw [Dk.turned_ok (by simpa using hc1) (by (try simp at hc2); simp [Dk.app, Dk.beg, Dk.syncd, Dk.set, Dk.swp, Dk.cut]; first | omega | (have := (d.may_iff.1 (by simp_all)); omega))]; rfl)
set_option maxRecDepth 100000 in
theorem ref_Settle (d : Dk)  (w : World) (hf : d.fit) : Fn Try.prog 20 [.agg d.cells.toArray] w [] fun v L' => v = .tuple #[.agg (d.turned d.bes d.set).1.cells.toArray, .int .i64 (d.turned d.bes d.set).2] ∧ L' = [] := by
  have h1 := hf
  simp only [Dk.fit, big] at h1
  refine Fn.enter Try.func20 rfl rfl rfl rfl (Holds.nil w) ?_
  refine CW.seq ?_
  refine CW.region ?_
  refine W.bx rfl (vt rfl) rfl fun b1 => ?_
  refine W.al rfl rfl fun b2 => ?_
  refine W.q (QV.q (O.as ⟨rfl, rfl⟩ (vt rfl))) ?_
  refine WL.nil (Q.tn ?_)
  refine CW.seq ?_
  refine CW.seq ?_
  refine CW.region ?_
  refine W.q (QV.q (O.lds ⟨rfl, rfl⟩ (vt rfl))) ?_
  refine W.q (O.call ⟨rfl, rfl⟩ (AV.cons (vt rfl) (AV.nil)) (fun _ w hw => ref_DiskMay _ w (by assumption))) ?_
  refine W.q (QV.q (O.nt ⟨rfl, rfl⟩ (vt rfl))) ?_
  refine W.q (QV.q (O.mv ⟨rfl, rfl⟩ (vt rfl))) ?_
  first | refine W.q (QV.q (O.fb ⟨rfl, rfl⟩ (vt rfl))) ?_ | refine W.q (QV.q (O.fa ⟨rfl, rfl⟩ (vt rfl))) ?_
  refine W.q (QV.q (O.ld ⟨rfl, rfl⟩ (vs rfl))) ?_
  refine W.q (QV.q (O.nt ⟨rfl, rfl⟩ (vs rfl))) ?_
  refine W.q (QV.q (O.pkB ⟨rfl, rfl⟩ (vt rfl) (vt rfl) (vs rfl))) ?_
  refine WL.nil (Q.tn ?_)
  refine CW.cond (vt rfl) (fun hc1 => ?_) (fun hc1 => ?_)
  · refine CW.seq ?_
    refine CW.region ?_
    refine W.q (QV.q (O.bd ⟨rfl, rfl⟩ (PV.nil))) ?_
    refine W.st (vt rfl) (vt rfl) rfl ?_
    refine W.q (QV.q (O.as ⟨rfl, rfl⟩ (vt rfl))) ?_
    refine WL.nil (Q.tn ?_)
    refine CW.ret (Q.tr ?_)
    refine ⟨_, [], (RVs.cell rfl (RVs.tmp rfl RVs.nil)), List.nil_sublist _, ?_⟩
    refine ⟨?_, rfl⟩; first | (rw [Dk.turned_no (by simpa using hc1)]; rfl) | (rw [Dk.turned_full (by simpa using hc1) (by simp at hc2; simp [Dk.app, Dk.beg]; omega)]; rfl) | (rw [Dk.turned_ok (by simpa using hc1) (by (try simp at hc2); simp [Dk.app, Dk.beg, Dk.syncd, Dk.set, Dk.swp, Dk.cut]; first | omega | (have := (d.may_iff.1 (by simp_all)); omega))]; rfl)
  · refine CW.skip (Q.tn ?_)
    refine CW.seq ?_
    refine CW.region ?_
    first | refine W.q (QV.q (O.fb ⟨rfl, rfl⟩ (vt rfl))) ?_ | refine W.q (QV.q (O.fa ⟨rfl, rfl⟩ (vt rfl))) ?_
    refine W.q (QV.q (O.ld ⟨rfl, rfl⟩ (vt rfl))) ?_
    refine W.q (QV.q (O.len ⟨rfl, rfl⟩ (vt rfl))) ?_
    first | refine W.q (QV.q (O.fb ⟨rfl, rfl⟩ (vt rfl))) ?_ | refine W.q (QV.q (O.fa ⟨rfl, rfl⟩ (vt rfl))) ?_
    refine W.st (vt rfl) (vt rfl) rfl ?_
    refine WL.nil (Q.tn ?_)
    refine CW.seq ?_
    refine CW.region ?_
    refine W.q (QV.q (O.lds ⟨rfl, rfl⟩ (vt rfl))) ?_
    refine W.st (vt rfl) (vt rfl) rfl ?_
    refine W.q (QV.q (O.as ⟨rfl, rfl⟩ (vt rfl))) ?_
    refine WL.nil (Q.tn ?_)
    refine CW.ret ?_
    refine ⟨_, [], (RVs.cell rfl (RVs.tmp rfl RVs.nil)), List.nil_sublist _, ?_⟩
    refine ⟨?_, rfl⟩; first | (rw [Dk.turned_no (by simpa using hc1)]; rfl) | (rw [Dk.turned_full (by simpa using hc1) (by simp at hc2; simp [Dk.app, Dk.beg]; omega)]; rfl) | (rw [Dk.turned_ok (by simpa using hc1) (by (try simp at hc2); simp [Dk.app, Dk.beg, Dk.syncd, Dk.set, Dk.swp, Dk.cut]; first | omega | (have := (d.may_iff.1 (by simp_all)); omega))]; rfl)
set_option maxRecDepth 100000 in
theorem ref_Swap (d : Dk)  (w : World) (hf : d.fit) : Fn Try.prog 22 [.agg d.cells.toArray] w [] fun v L' => v = .tuple #[.agg (d.turned d.bes d.swp).1.cells.toArray, .int .i64 (d.turned d.bes d.swp).2] ∧ L' = [] := by
  have h1 := hf
  simp only [Dk.fit, big] at h1
  refine Fn.enter Try.func22 rfl rfl rfl rfl (Holds.nil w) ?_
  refine CW.seq ?_
  refine CW.region ?_
  refine W.bx rfl (vt rfl) rfl fun b1 => ?_
  refine W.al rfl rfl fun b2 => ?_
  refine W.q (QV.q (O.as ⟨rfl, rfl⟩ (vt rfl))) ?_
  refine WL.nil (Q.tn ?_)
  refine CW.seq ?_
  refine CW.seq ?_
  refine CW.region ?_
  refine W.q (QV.q (O.lds ⟨rfl, rfl⟩ (vt rfl))) ?_
  refine W.q (O.call ⟨rfl, rfl⟩ (AV.cons (vt rfl) (AV.nil)) (fun _ w hw => ref_DiskMay _ w (by assumption))) ?_
  refine W.q (QV.q (O.nt ⟨rfl, rfl⟩ (vt rfl))) ?_
  refine W.q (QV.q (O.mv ⟨rfl, rfl⟩ (vt rfl))) ?_
  first | refine W.q (QV.q (O.fb ⟨rfl, rfl⟩ (vt rfl))) ?_ | refine W.q (QV.q (O.fa ⟨rfl, rfl⟩ (vt rfl))) ?_
  refine W.q (QV.q (O.ld ⟨rfl, rfl⟩ (vs rfl))) ?_
  refine W.q (QV.q (O.nt ⟨rfl, rfl⟩ (vs rfl))) ?_
  refine W.q (QV.q (O.pkB ⟨rfl, rfl⟩ (vt rfl) (vt rfl) (vs rfl))) ?_
  refine WL.nil (Q.tn ?_)
  refine CW.cond (vt rfl) (fun hc1 => ?_) (fun hc1 => ?_)
  · refine CW.seq ?_
    refine CW.region ?_
    refine W.q (QV.q (O.bd ⟨rfl, rfl⟩ (PV.nil))) ?_
    refine W.st (vt rfl) (vt rfl) rfl ?_
    refine W.q (QV.q (O.as ⟨rfl, rfl⟩ (vt rfl))) ?_
    refine WL.nil (Q.tn ?_)
    refine CW.ret (Q.tr ?_)
    refine ⟨_, [], (RVs.cell rfl (RVs.tmp rfl RVs.nil)), List.nil_sublist _, ?_⟩
    refine ⟨?_, rfl⟩; first | (rw [Dk.turned_no (by simpa using hc1)]; rfl) | (rw [Dk.turned_full (by simpa using hc1) (by simp at hc2; simp [Dk.app, Dk.beg]; omega)]; rfl) | (rw [Dk.turned_ok (by simpa using hc1) (by (try simp at hc2); simp [Dk.app, Dk.beg, Dk.syncd, Dk.set, Dk.swp, Dk.cut]; first | omega | (have := (d.may_iff.1 (by simp_all)); omega))]; rfl)
  · refine CW.skip (Q.tn ?_)
    refine CW.seq ?_
    refine CW.region ?_
    first | refine W.q (QV.q (O.fb ⟨rfl, rfl⟩ (vt rfl))) ?_ | refine W.q (QV.q (O.fa ⟨rfl, rfl⟩ (vt rfl))) ?_
    refine W.q (QV.q (O.ld ⟨rfl, rfl⟩ (vt rfl))) ?_
    first | refine W.q (QV.q (O.fb ⟨rfl, rfl⟩ (vt rfl))) ?_ | refine W.q (QV.q (O.fa ⟨rfl, rfl⟩ (vt rfl))) ?_
    refine W.q (QV.q (O.ld ⟨rfl, rfl⟩ (vt rfl))) ?_
    refine W.q (QV.q (O.bd ⟨rfl, rfl⟩ (PV.cons (vt rfl) (PV.cons (vt rfl) (PV.nil))))) ?_
    refine W.st (vt rfl) (vt rfl) rfl ?_
    refine W.q (QV.q (O.as ⟨rfl, rfl⟩ (vt rfl))) ?_
    refine WL.nil (Q.tn ?_)
    refine CW.ret ?_
    refine ⟨_, [], (RVs.cell rfl (RVs.tmp rfl RVs.nil)), List.nil_sublist _, ?_⟩
    refine ⟨?_, rfl⟩; first | (rw [Dk.turned_no (by simpa using hc1)]; rfl) | (rw [Dk.turned_full (by simpa using hc1) (by simp at hc2; simp [Dk.app, Dk.beg]; omega)]; rfl) | (rw [Dk.turned_ok (by simpa using hc1) (by (try simp at hc2); simp [Dk.app, Dk.beg, Dk.syncd, Dk.set, Dk.swp, Dk.cut]; first | omega | (have := (d.may_iff.1 (by simp_all)); omega))]; rfl)
set_option maxRecDepth 100000 in
theorem ref_Crash (d : Dk) (k : Int) (w : World) (hf : d.fit) : Fn Try.prog 24 [.agg d.cells.toArray, .int .i64 k] w [] fun v L' => v = .tuple #[.agg (d.turned (decide (0 ≤ k)) (d.cut k)).1.cells.toArray, .int .i64 (d.turned (decide (0 ≤ k)) (d.cut k)).2] ∧ L' = [] := by
  have h1 := hf
  simp only [Dk.fit, big] at h1
  refine Fn.enter Try.func24 rfl rfl rfl rfl (Holds.nil w) ?_
  refine CW.seq ?_
  refine CW.region ?_
  refine W.bx rfl (vt rfl) rfl fun b1 => ?_
  refine W.al rfl rfl fun b2 => ?_
  refine W.q (QV.q (O.as ⟨rfl, rfl⟩ (vt rfl))) ?_
  refine WL.nil (Q.tn ?_)
  refine CW.seq ?_
  refine CW.seq ?_
  refine CW.region ?_
  refine W.q (QV.q (O.lds ⟨rfl, rfl⟩ (vt rfl))) ?_
  refine W.q (O.call ⟨rfl, rfl⟩ (AV.cons (vt rfl) (AV.nil)) (fun _ w hw => ref_DiskMay _ w (by assumption))) ?_
  refine W.q (QV.q (O.nt ⟨rfl, rfl⟩ (vt rfl))) ?_
  refine W.q (QV.q (O.mv ⟨rfl, rfl⟩ (vt rfl))) ?_
  refine W.q (QV.q (O.mv ⟨rfl, rfl⟩ (vt rfl))) ?_
  refine W.q (QV.q (O.lss ⟨rfl, rfl⟩ (vs rfl) (vt rfl))) ?_
  refine W.q (QV.q (O.pkB ⟨rfl, rfl⟩ (vt rfl) (vt rfl) (vs rfl))) ?_
  refine WL.nil (Q.tn ?_)
  refine CW.cond (vt rfl) (fun hc1 => ?_) (fun hc1 => ?_)
  · refine CW.seq ?_
    refine CW.region ?_
    refine W.q (QV.q (O.bd ⟨rfl, rfl⟩ (PV.nil))) ?_
    refine W.st (vt rfl) (vt rfl) rfl ?_
    refine W.q (QV.q (O.as ⟨rfl, rfl⟩ (vt rfl))) ?_
    refine WL.nil (Q.tn ?_)
    refine CW.ret (Q.tr ?_)
    refine ⟨_, [], (RVs.cell rfl (RVs.tmp rfl RVs.nil)), List.nil_sublist _, ?_⟩
    refine ⟨?_, rfl⟩; first | (rw [Dk.turned_no (by simpa using hc1)]; rfl) | (rw [Dk.turned_full (by simpa using hc1) (by simp at hc2; simp [Dk.app, Dk.beg]; omega)]; rfl) | (rw [Dk.turned_ok (by simpa using hc1) (by (try simp at hc2); simp [Dk.app, Dk.beg, Dk.syncd, Dk.set, Dk.swp, Dk.cut]; first | omega | (have := (d.may_iff.1 (by simp_all)); omega))]; rfl)
  · refine CW.skip (Q.tn ?_); obtain ⟨_, g1, g2, g3, g4, g5⟩ := d.may_iff.1 (by simp at hc1; exact hc1.1); have hk : 0 ≤ k := (by simp at hc1; omega)
    refine CW.seq ?_
    refine CW.region ?_
    first | refine W.q (QV.q (O.fb ⟨rfl, rfl⟩ (vt rfl))) ?_ | refine W.q (QV.q (O.fa ⟨rfl, rfl⟩ (vt rfl))) ?_
    refine W.q (QV.q (O.ld ⟨rfl, rfl⟩ (vt rfl))) ?_
    refine W.q (QV.q (O.mv ⟨rfl, rfl⟩ (vt rfl))) ?_
    first | refine W.q (QV.q (O.fb ⟨rfl, rfl⟩ (vt rfl))) ?_ | refine W.q (QV.q (O.fa ⟨rfl, rfl⟩ (vt rfl))) ?_
    refine W.q (QV.q (O.ld ⟨rfl, rfl⟩ (vt rfl))) ?_
    refine W.q (QV.q (O.len ⟨rfl, rfl⟩ (vt rfl))) ?_
    first | refine W.q (QV.q (O.fb ⟨rfl, rfl⟩ (vt rfl))) ?_ | refine W.q (QV.q (O.fa ⟨rfl, rfl⟩ (vt rfl))) ?_
    refine W.q (QV.q (O.ld ⟨rfl, rfl⟩ (vt rfl))) ?_
    first | refine W.q (QV.q (O.subN ⟨rfl, rfl⟩ (vt rfl) (vt rfl) (fun _ => by omega))) ?_ | refine W.q (QV.q (O.sub ⟨rfl, rfl⟩ (vt rfl) (vt rfl))) ?_
    refine W.q (QV.q (O.min ⟨rfl, rfl⟩ (vt rfl) (vt rfl))) ?_
    first | refine W.q (QV.q (O.addN ⟨rfl, rfl⟩ (vt rfl) (vt rfl) (fun _ => by omega))) ?_ | refine W.q (QV.q (O.add ⟨rfl, rfl⟩ (vt rfl) (vt rfl))) ?_
    refine W.q (QV.q (O.as ⟨rfl, rfl⟩ (vt rfl))) ?_
    refine WL.nil (Q.tn ?_)
    refine CW.seq ?_
    refine CW.region ?_
    first | refine W.q (QV.q (O.fb ⟨rfl, rfl⟩ (vt rfl))) ?_ | refine W.q (QV.q (O.fa ⟨rfl, rfl⟩ (vt rfl))) ?_
    refine W.q (QV.q (O.ld ⟨rfl, rfl⟩ (vt rfl))) ?_
    refine W.q (QV.q (O.mv ⟨rfl, rfl⟩ (vt rfl))) ?_
    refine W.q (QV.q (O.slcH ⟨rfl, rfl⟩ (vt rfl) (vt rfl) (fun _ => by omega))) ?_
    refine W.q (QV.q (O.mv ⟨rfl, rfl⟩ (vt rfl))) ?_
    refine W.q (QV.q (O.bd ⟨rfl, rfl⟩ (PV.cons (vt rfl) (PV.cons (vt rfl) (PV.nil))))) ?_
    refine W.st (vt rfl) (vt rfl) rfl ?_
    refine W.q (QV.q (O.as ⟨rfl, rfl⟩ (vt rfl))) ?_
    refine WL.nil (Q.tn ?_)
    refine CW.ret ?_
    refine ⟨_, [], (RVs.cell rfl (RVs.tmp rfl RVs.nil)), List.nil_sublist _, ?_⟩
    refine ⟨?_, rfl⟩; first | (rw [Dk.turned_no (by simpa using hc1)]; rfl) | (rw [Dk.turned_full (by simpa using hc1) (by simp at hc2; simp [Dk.app, Dk.beg]; omega)]; rfl) | (rw [Dk.turned_ok (by simpa using hc1) (by (try simp at hc2); simp [Dk.app, Dk.beg, Dk.syncd, Dk.set, Dk.swp, Dk.cut]; first | omega | (have := (d.may_iff.1 (by simp_all)); omega))]; rfl)
end Go.Proofs.Ytmhjcmpokjhhcaa
