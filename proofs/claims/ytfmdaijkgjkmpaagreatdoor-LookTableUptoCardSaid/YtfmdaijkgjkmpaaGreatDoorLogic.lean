/- A small separation logic over the kit's 'wp': a function's temporaries as a list, its own blocks as a list; one lemma an operation. No condition. -/
import Derived.WalkKit
import Derived.Laws.Rows
import Derived.Below
import Derived.KernelRfl
import Derived.IntWalk
import Derived.StillTail
import Derived.Laws.IdiomStrings
import Derived.Laws.MakeOwn
import Derived.OrdersHeld
import Derived.Laws.StructEq
set_option linter.unusedVariables false
set_option linter.unusedSimpArgs false
namespace Go.Proofs.YtfmdaijkgjkmpaaGreatDoor
open Go Go.RowKit

/-! ## environments -/
abbrev Env := List (Nat × Bool × Value)
abbrev Heap := List (Nat × Obj)

def lk : Env → Nat → Option (Bool × Value)
  | [], _ => none
  | (t, g, v) :: r, k => bif Nat.beq t k then some (g, v) else lk r k

def ev (E : Env) : Operand → Option (Bool × Value)
  | .tmp t => lk E t
  | .const v => some (true, v)
  | .global g => some (true, .pointer (some ⟨g, 0, none⟩))
  | .func f => some (true, .func (.func f) #[] #[])

structure EnvOk (n : Nat) (E : Env) (a : Act) : Prop where
  size : a.tmps.size = n
  defers : a.defers = []
  val : ∀ t g v, lk E t = some (g, v) → a.tmps.getD t undef = bif g then v else undef

theorem EnvOk.ev {n : Nat} {E : Env} {a : Act} (h : EnvOk n E a) {x : Operand} {g : Bool} {v : Value} (he : ev E x = some (g, v)) (hg : g = true) : a.eval x = v := by
  subst hg
  cases x with
  | tmp t => simpa [Act.eval] using h.val t true v he
  | const c => simp [YtfmdaijkgjkmpaaGreatDoor.ev] at he; simpa [Act.eval] using he
  | global c => simp [YtfmdaijkgjkmpaaGreatDoor.ev] at he; simpa [Act.eval] using he
  | func c => simp [YtfmdaijkgjkmpaaGreatDoor.ev] at he; simpa [Act.eval] using he

theorem EnvOk.put {n : Nat} {E : Env} {a : Act} (h : EnvOk n E a) {d : Nat} {G : Bool} {v : Value} (hd : d < n) : EnvOk n ((d, G, v) :: E) (a.put (some d) (bif G then v else undef)) := by
  refine ⟨by simp [Act.put, h.size], by simp [Act.put, h.defers], ?_⟩
  intro t g u ht
  simp only [lk] at ht
  cases hb : Nat.beq d t with
  | true =>
    have e : d = t := Nat.eq_of_beq_eq_true hb
    subst e
    rw [hb] at ht
    simp only [cond_true, Option.some.injEq, Prod.mk.injEq] at ht
    obtain ⟨rfl, rfl⟩ := ht
    simp [Act.put, Array.getElem?_setIfInBounds, h.size, hd]
  | false =>
    rw [hb] at ht
    simp only [cond_false] at ht
    have e : d ≠ t := Nat.ne_of_beq_eq_false hb
    have := h.val t g u ht
    simpa [Act.put, Array.getElem?_setIfInBounds, e] using this

/-- the value of an operand, needed only where the guard holds -/
def Val (G : Bool) (E : Env) (x : Operand) (v : Value) : Prop := ∃ g, ev E x = some (g, v) ∧ (G = true → g = true)
theorem vt {G : Bool} {E : Env} {x : Operand} {v : Value} (h : ev E x = some (true, v)) : Val G E x v := ⟨true, h, fun _ => rfl⟩
theorem vs {G : Bool} {E : Env} {x : Operand} {v : Value} (h : ev E x = some (G, v)) : Val G E x v := ⟨G, h, id⟩
theorem vi {G g : Bool} {E : Env} {x : Operand} {v : Value} (h : ev E x = some (g, v)) (hi : G = true → g = true) : Val G E x v := ⟨g, h, hi⟩
theorem Val.eval {n : Nat} {G : Bool} {E : Env} {x : Operand} {v : Value} {a : Act} (h : Val G E x v) (hG : G = true) (ha : EnvOk n E a) : a.eval x = v := by
  obtain ⟨g, he, hi⟩ := h
  exact ha.ev he (hi hG)

theorem and1 {a b : Bool} (h : (a && b) = true) : a = true := by cases a <;> simp_all
/-! ## the guard -/
def gd (all : List Oper) (E : Env) : Option (Nat × Bool) → Option Bool
  | none => some true
  | some (j, want) =>
    match all[j]? with
    | some o => match o.dst with
      | some t => match lk E t with
        | some (g, .bool x) => some (g && (bif want then x else !x))
        | _ => none
      | none => none
    | none => none

theorem gd_wanted {n : Nat} {all : List Oper} {E : Env} {a : Act} {o : Oper} {G : Bool} (ha : EnvOk n E a) (h : gd all E o.guard = some G) :
    Region.wanted o (yielded all.toArray a.tmps) = G := by
  unfold Region.wanted
  cases hgd : o.guard with
  | none => rw [hgd] at h; simp [gd] at h; subst h; rfl
  | some jw =>
    obtain ⟨j, want⟩ := jw
    rw [hgd] at h
    simp only [gd] at h
    cases ho : all[j]? with
    | none => simp [ho] at h
    | some oj =>
      cases hd : oj.dst with
      | none => simp [ho, hd] at h
      | some t =>
        simp only [ho, hd] at h
        cases hl : lk E t with
        | none => simp [hl] at h
        | some p =>
          obtain ⟨g, v⟩ := p
          simp only [hl] at h
          cases v with
          | bool x =>
            simp only [Option.some.injEq] at h
            have hv := ha.val t g _ hl
            have hy : yielded all.toArray a.tmps j = bif g then some x else none := by
              unfold yielded
              simp only [List.getElem?_toArray, ho, Option.bind_some, hd]
              have : a.tmps[t]? = none ∨ a.tmps[t]? = some (bif g then .bool x else undef) := by
                cases hq : a.tmps[t]? with
                | none => exact .inl rfl
                | some q => right; simp [hq] at hv; rw [← hv]
              rcases this with e | e
              · rw [e]
                cases g with
                | false => rfl
                | true => simp [e, undef] at hv
              · rw [e]; cases g <;> simp [undef]
            simp only [hy, ← h]
            cases g <;> cases x <;> cases want <;> rfl
          | _ => simp at h

/-! ## the own blocks -/
structure Upd (w0 : World) (L0 : Heap) (w : World) (L : Heap) : Prop where
  os : w.os = w0.os
  tape : w.tape = w0.tape
  output : w.output = w0.output
  size : w0.heap.size ≤ w.heap.size
  old : ∀ k, k < w0.heap.size → k ∉ L0.map Prod.fst → w.heap[k]? = w0.heap[k]?
  has : ∀ p ∈ L, w.heap[p.1]? = some p.2
  own : ∀ p ∈ L, p.1 ∈ L0.map Prod.fst ∨ w0.heap.size ≤ p.1
  nd : (L.map Prod.fst).Nodup

/-- a world in which a heaplet lies -/
structure Holds (L : Heap) (w : World) : Prop where
  has : ∀ p ∈ L, w.heap[p.1]? = some p.2
  nd : (L.map Prod.fst).Nodup

theorem Upd.refl {L : Heap} {w : World} (h : Holds L w) : Upd w L w L :=
  ⟨rfl, rfl, rfl, Nat.le_refl _, fun _ _ _ => rfl, h.has, fun p hp => .inl (List.mem_map_of_mem hp), h.nd⟩
theorem Holds.nil (w : World) : Holds [] w := ⟨by simp, by simp⟩
theorem Upd.lt {w0 w : World} {L0 L : Heap} (h : Upd w0 L0 w L) {p : Nat × Obj} (hp : p ∈ L) : p.1 < w.heap.size := by
  have := h.has p hp
  exact (Array.getElem?_eq_some_iff.1 this).1

theorem Upd.alloc {w0 w : World} {L0 L : Heap} (h : Upd w0 L0 w L) (o : Obj) : Upd w0 L0 (w.alloc o) ((w.heap.size, o) :: L) := by
  refine ⟨h.os, h.tape, h.output, ?_, ?_, ?_, ?_, ?_⟩
  · have := h.size; simp; omega
  · intro k hk hn
    rw [Below.heap_alloc _ _ _ (by have := h.size; omega)]
    exact h.old k hk hn
  · intro p hp
    rcases List.mem_cons.1 hp with rfl | hp
    · exact heap_alloc_new w o
    · rw [Below.heap_alloc _ _ _ (h.lt hp)]; exact h.has p hp
  · intro p hp
    rcases List.mem_cons.1 hp with rfl | hp
    · exact .inr h.size
    · exact h.own p hp
  · simp only [List.map_cons, List.nodup_cons]
    refine ⟨?_, h.nd⟩
    intro hm
    obtain ⟨p, hp, e⟩ := List.mem_map.1 hm
    have := h.lt hp
    omega

/-- a draw, an event: the heap as it was -/
theorem Upd.same {w0 w w' : World} {L0 L : Heap} (h : Upd w0 L0 w L) (ho : w'.os = w.os) (ht : w'.tape = w.tape) (hp : w'.output = w.output) (hh : w'.heap = w.heap) : Upd w0 L0 w' L :=
  ⟨ho.trans h.os, ht.trans h.tape, hp.trans h.output, by rw [hh]; exact h.size, fun k hk hn => by rw [hh]; exact h.old k hk hn, fun p hp => by rw [hh]; exact h.has p hp, h.own, h.nd⟩

/-- less is held -/
theorem Upd.sub {w0 w : World} {L0 L L' : Heap} (h : Upd w0 L0 w L) (hs : L'.Sublist L) : Upd w0 L0 w L' :=
  ⟨h.os, h.tape, h.output, h.size, h.old, fun p hp => h.has p (hs.subset hp), fun p hp => h.own p (hs.subset hp), h.nd.sublist (hs.map _)⟩
theorem Upd.perm {w0 w : World} {L0 L L' : Heap} (h : Upd w0 L0 w L) (hs : L'.Perm L) : Upd w0 L0 w L' :=
  ⟨h.os, h.tape, h.output, h.size, h.old, fun p hp => h.has p (hs.subset hp), fun p hp => h.own p (hs.subset hp), (hs.map _).nodup_iff.2 h.nd⟩

/-! ## the triples -/
abbrev Post := Exit → Env → Heap → Prop
def lift (n : Nat) (w0 : World) (L0 : Heap) (Q : Post) : Exit → Act → World → Prop :=
  fun e a w => ∃ E L, Q e E L ∧ EnvOk n E a ∧ Upd w0 L0 w L

section
variable {P : Program} {n : Nat} {w0 : World} {L0 : Heap}
def WL (P : Program) (n : Nat) (w0 : World) (L0 : Heap) (all : List Oper) (rest : List Oper) (E : Env) (L : Heap) (Q : Post) : Prop :=
  ∀ a w, EnvOk n E a → Upd w0 L0 w L → wpList P all.toArray (lift n w0 L0 Q) rest a w
def CW (P : Program) (n : Nat) (w0 : World) (L0 : Heap) (c : Code) (E : Env) (L : Heap) (Q : Post) : Prop :=
  ∀ a w, EnvOk n E a → Upd w0 L0 w L → c.wp P (lift n w0 L0 Q) a w

def thenQ (K : Env → Heap → Prop) (Q : Post) : Post
  | .normal, E, L => K E L
  | e, E, L => Q e E L
def blockQ (id : Nat) (Q : Post) : Post
  | .exit i, E, L => if i = id then Q .normal E L else Q (.exit i) E L
  | e, E, L => Q e E L

theorem CW.seq {x y : Code} {E : Env} {L : Heap} {Q : Post} (h : CW P n w0 L0 x E L (thenQ (fun E L => CW P n w0 L0 y E L Q) Q)) : CW P n w0 L0 (.seq x y) E L Q := by
  intro a w ha hw
  refine wp_seq (Code.wp_mono ?_ (h a w ha hw))
  rintro e a' w' ⟨E', L', hq, ha', hw'⟩
  cases e with
  | normal => exact hq a' w' ha' hw'
  | _ => exact ⟨E', L', hq, ha', hw'⟩
theorem CW.skip {E : Env} {L : Heap} {Q : Post} (h : Q .normal E L) : CW P n w0 L0 .skip E L Q := fun _ _ ha hw => wp_skip ⟨E, L, h, ha, hw⟩
theorem CW.ret {E : Env} {L : Heap} {Q : Post} (h : Q .ret E L) : CW P n w0 L0 .ret E L Q := fun _ _ ha hw => wp_ret ⟨E, L, h, ha, hw⟩
theorem CW.exit {id : Nat} {E : Env} {L : Heap} {Q : Post} (h : Q (.exit id) E L) : CW P n w0 L0 (.exit id) E L Q := fun _ _ ha hw => wp_exit ⟨E, L, h, ha, hw⟩
theorem CW.block {id : Nat} {c : Code} {E : Env} {L : Heap} {Q : Post} (h : CW P n w0 L0 c E L (blockQ id Q)) : CW P n w0 L0 (.block id c) E L Q := by
  intro a w ha hw
  refine wp_block (Code.wp_mono ?_ (h a w ha hw))
  rintro e a' w' ⟨E', L', hq, ha', hw'⟩
  cases e with
  | exit i =>
    simp only [blockQ] at hq
    simp only [Exit.inBlock]
    by_cases hi : i = id
    · rw [if_pos hi] at hq; rw [if_pos hi]; exact ⟨E', L', hq, ha', hw'⟩
    · rw [if_neg hi] at hq; rw [if_neg hi]; exact ⟨E', L', hq, ha', hw'⟩
  | _ => exact ⟨E', L', hq, ha', hw'⟩
theorem CW.cond {c : Operand} {x y : Code} {t : Bool} {E : Env} {L : Heap} {Q : Post} (hc : Val true E c (.bool t)) (h1 : t = true → CW P n w0 L0 x E L Q) (h2 : t = false → CW P n w0 L0 y E L Q) : CW P n w0 L0 (.cond c x y) E L Q := by
  intro a w ha hw
  have := hc.eval rfl ha
  cases t with
  | true => exact wp_cond_true this (h1 rfl a w ha hw)
  | false => exact wp_cond_false this (h2 rfl a w ha hw)
theorem CW.region {id : Nat} {l : List Oper} {E : Env} {L : Heap} {Q : Post} (h : WL P n w0 L0 l l E L Q) : CW P n w0 L0 (.region id l.toArray false) E L Q :=
  fun a w ha hw => wp_region_lit (h a w ha hw)
theorem WL.nil {all : List Oper} {E : Env} {L : Heap} {Q : Post} (h : Q .normal E L) : WL P n w0 L0 all [] E L Q := fun _ _ ha hw => ⟨E, L, h, ha, hw⟩

theorem CW.post {c : Code} {E : Env} {L : Heap} {Q Q' : Post} (h : CW P n w0 L0 c E L Q) (hq : ∀ e E L, Q e E L → Q' e E L) : CW P n w0 L0 c E L Q' :=
  fun a w ha hw => Code.wp_mono (fun e a w ⟨E, L, q, r⟩ => ⟨E, L, hq _ _ _ q, r⟩) (h a w ha hw)

/-- what is known of the environment and the heap may be less -/
def SubE : Env → Env → Prop
  | [], _ => True
  | (t, g, v) :: r, E => lk E t = some (g, v) ∧ SubE r E
theorem SubE.lk {F E : Env} (h : SubE F E) {t : Nat} {g : Bool} {v : Value} (hl : lk F t = some (g, v)) : lk E t = some (g, v) := by
  induction F with
  | nil => simp [YtfmdaijkgjkmpaaGreatDoor.lk] at hl
  | cons p r ih =>
    obtain ⟨t', g', v'⟩ := p
    simp only [YtfmdaijkgjkmpaaGreatDoor.lk] at hl
    cases hb : Nat.beq t' t with
    | true =>
      rw [hb] at hl
      simp only [cond_true, Option.some.injEq, Prod.mk.injEq] at hl
      obtain ⟨rfl, rfl⟩ := hl
      rw [← Nat.eq_of_beq_eq_true hb]; exact h.1
    | false => rw [hb] at hl; exact ih h.2 hl
theorem EnvOk.sub {F E : Env} {a : Act} (ha : EnvOk n E a) (h : SubE F E) : EnvOk n F a := ⟨ha.size, ha.defers, fun t g v hl => ha.val t g v (h.lk hl)⟩
theorem CW.weak {c : Code} {E F : Env} {L L' : Heap} {Q : Post} (hE : SubE F E) (hL : L'.Sublist L) (h : CW P n w0 L0 c F L' Q) : CW P n w0 L0 c E L Q :=
  fun a w ha hw => h a w (ha.sub hE) (hw.sub hL)
theorem least (p : Nat → Prop) (h : ∃ k, p k) : ∃ k, p k ∧ ∀ j, p j → k ≤ j := by
  obtain ⟨k, hk⟩ := h
  induction k using Nat.strongRecOn with
  | _ k ih =>
    by_cases hj : ∃ j, j < k ∧ p j
    · obtain ⟨j, hlt, hj⟩ := hj; exact ih j hlt hj
    · exact ⟨k, hk, fun j hp => Nat.le_of_not_lt fun hlt => hj ⟨j, hlt, hp⟩⟩
open Classical in
noncomputable def leastOf (p : Nat → Prop) : Nat := if h : ∃ k, p k then Classical.choose (least p h) else 0
theorem leastOf_spec (p : Nat → Prop) (h : ∃ k, p k) : p (leastOf p) ∧ ∀ j, p j → leastOf p ≤ j := by
  unfold leastOf; rw [dif_pos h]; exact Classical.choose_spec (least p h)

/-- a loop: its state 'x', what it holds, a measure -/
theorem CW.loop {c : Code} {E : Env} {L : Heap} {Q : Post} {X : Type} (F : X → Env) (H : X → Heap) (I : X → Prop) (m : X → Nat) (x0 : X) (hI : I x0) (hE : SubE (F x0) E) (hL : (H x0).Sublist L)
    (body : ∀ x, I x → CW P n w0 L0 c (F x) (H x) (thenQ (fun E' L' => ∃ y, I y ∧ m y < m x ∧ SubE (F y) E' ∧ (H y).Sublist L') Q)) : CW P n w0 L0 (.loop c) E L Q := by
  intro a w ha hw
  have inv : ∀ a w, (∃ k x, m x = k ∧ I x ∧ EnvOk n (F x) a ∧ Upd w0 L0 w (H x)) ↔ ∃ k, (fun k => ∃ x, m x = k ∧ I x ∧ EnvOk n (F x) a ∧ Upd w0 L0 w (H x)) k := fun _ _ => Iff.rfl
  refine wp_loop (fun a w => ∃ k, ∃ x, m x = k ∧ I x ∧ EnvOk n (F x) a ∧ Upd w0 L0 w (H x))
    (fun a w => leastOf fun k => ∃ x, m x = k ∧ I x ∧ EnvOk n (F x) a ∧ Upd w0 L0 w (H x)) ⟨_, x0, rfl, hI, ha.sub hE, hw.sub hL⟩ ?_
  intro a w h
  obtain ⟨⟨x, hm, hx, hax, hwx⟩, hmin⟩ := leastOf_spec _ h
  refine Code.wp_mono ?_ (body x hx a w hax hwx)
  rintro e a' w' ⟨E', L', hq, ha', hw'⟩
  cases e with
  | normal =>
    obtain ⟨y, hy, hlt, hE', hL'⟩ := hq
    have hy' : ∃ k, ∃ x, m x = k ∧ I x ∧ EnvOk n (F x) a' ∧ Upd w0 L0 w' (H x) := ⟨_, y, rfl, hy, ha'.sub hE', hw'.sub hL'⟩
    refine ⟨hy', ?_⟩
    have := (leastOf_spec _ hy').2 (m y) ⟨y, rfl, hy, ha'.sub hE', hw'.sub hL'⟩
    show leastOf _ < leastOf _
    omega
  | _ => exact ⟨E', L', hq, ha', hw'⟩
end
theorem beq_dec {α : Type} [BEq α] [LawfulBEq α] [DecidableEq α] (a b : α) : (a == b) = decide (a = b) := by rw [Bool.eq_iff_iff]; simp
section
variable {P : Program} {ρ : Operand → Value} {d : Option Tmp} {x y z : Operand} {T T' ty : TypeId} {pos : String} {aft : Array Edge} {g : Option (Nat × Bool)} {w : World}
abbrev S (l : List UInt8) : ByteArray := ⟨⟨l⟩⟩
theorem S_append (a b : List UInt8) : S a ++ S b = S (a ++ b) := by
  apply ByteArray.ext; simp [S]
theorem S_extract (a : List UInt8) (i j : Nat) : (S a).extract i j = S ((a.take j).drop i) := by
  apply ByteArray.ext; simp [S, List.drop_take]
theorem r_move : (execOp ρ ⟨d, .move x, ty, pos, aft, g⟩).run P w = .ok (.value (ρ x)) w := by simp [execOp]
theorem r_assign : (execOp ρ ⟨d, .assign x, ty, pos, aft, g⟩).run P w = .ok (.value (ρ x)) w := by simp [execOp]
theorem r_pick {b : Bool} (h : ρ x = .bool b) : (execOp ρ ⟨d, .pick x y z, ty, pos, aft, g⟩).run P w = .ok (.value (bif b then ρ y else ρ z)) w := by
  cases b <;> simp [execOp, h, asBool]
theorem r_not {a : Bool} (hx : ρ x = .bool a) : (execOp ρ ⟨d, .unOp .not T x, ty, pos, aft, g⟩).run P w = .ok (.value (.bool (!a))) w := by
  simp [execOp, hx, go_sem]
theorem r_add {a b : Int} {k : IntKind} (hx : ρ x = .int k a) (hy : ρ y = .int k b) : (execOp ρ ⟨d, .binOp .add T x y T', ty, pos, aft, g⟩).run P w = .ok (.value (.int k (k.wrap (a + b)))) w := by
  simp [execOp, hx, hy, go_sem]
theorem r_sub {a b : Int} {k : IntKind} (hx : ρ x = .int k a) (hy : ρ y = .int k b) : (execOp ρ ⟨d, .binOp .sub T x y T', ty, pos, aft, g⟩).run P w = .ok (.value (.int k (k.wrap (a - b)))) w := by
  simp [execOp, hx, hy, go_sem]
theorem r_mul {a b : Int} {k : IntKind} (hx : ρ x = .int k a) (hy : ρ y = .int k b) : (execOp ρ ⟨d, .binOp .mul T x y T', ty, pos, aft, g⟩).run P w = .ok (.value (.int k (k.wrap (a * b)))) w := by
  simp [execOp, hx, hy, go_sem]
theorem r_lss {a b : Int} {k : IntKind} (hx : ρ x = .int k a) (hy : ρ y = .int k b) : (execOp ρ ⟨d, .binOp .lss T x y T', ty, pos, aft, g⟩).run P w = .ok (.value (.bool (decide (a < b)))) w := by
  simp [execOp, hx, hy, go_sem]
theorem r_leq {a b : Int} {k : IntKind} (hx : ρ x = .int k a) (hy : ρ y = .int k b) : (execOp ρ ⟨d, .binOp .leq T x y T', ty, pos, aft, g⟩).run P w = .ok (.value (.bool (decide (a ≤ b)))) w := by
  simp [execOp, hx, hy, go_sem]
theorem r_gtr {a b : Int} {k : IntKind} (hx : ρ x = .int k a) (hy : ρ y = .int k b) : (execOp ρ ⟨d, .binOp .gtr T x y T', ty, pos, aft, g⟩).run P w = .ok (.value (.bool (decide (b < a)))) w := by
  simp [execOp, hx, hy, go_sem]
theorem r_geq {a b : Int} {k : IntKind} (hx : ρ x = .int k a) (hy : ρ y = .int k b) : (execOp ρ ⟨d, .binOp .geq T x y T', ty, pos, aft, g⟩).run P w = .ok (.value (.bool (decide (b ≤ a)))) w := by
  simp [execOp, hx, hy, go_sem]
theorem r_eqI {a b : Int} {k : IntKind} (hx : ρ x = .int k a) (hy : ρ y = .int k b) : (execOp ρ ⟨d, .binOp .eql T x y T', ty, pos, aft, g⟩).run P w = .ok (.value (.bool (decide (a = b)))) w := by
  simp [execOp, hx, hy, go_sem]; exact beq_dec a b
theorem r_neI {a b : Int} {k : IntKind} (hx : ρ x = .int k a) (hy : ρ y = .int k b) : (execOp ρ ⟨d, .binOp .neq T x y T', ty, pos, aft, g⟩).run P w = .ok (.value (.bool (!decide (a = b)))) w := by
  simp [execOp, hx, hy, go_sem, bne, beq_dec]
theorem r_eqB {a b : Bool} (hx : ρ x = .bool a) (hy : ρ y = .bool b) (hT : P.underlying T = some .bool) : (execOp ρ ⟨d, .binOp .eql T x y T', ty, pos, aft, g⟩).run P w = .ok (.value (.bool (a == b))) w := by
  have h1 : binOp .eql T (.bool a) (.bool b) = (do pure (.bool (← Op.equal T (.bool a) (.bool b)))) := rfl
  have h2 : (Op.equal T (.bool a) (.bool b)).run P w = .ok (a == b) w := run_equalIn_bool w 9999 T a b hT
  simp [execOp, hx, hy, go_sem, h1, h2]
theorem r_neB {a b : Bool} (hx : ρ x = .bool a) (hy : ρ y = .bool b) (hT : P.underlying T = some .bool) : (execOp ρ ⟨d, .binOp .neq T x y T', ty, pos, aft, g⟩).run P w = .ok (.value (.bool (a != b))) w := by
  have h1 : binOp .neq T (.bool a) (.bool b) = (do pure (.bool (!(← Op.equal T (.bool a) (.bool b))))) := rfl
  have h2 : (Op.equal T (.bool a) (.bool b)).run P w = .ok (a == b) w := run_equalIn_bool w 9999 T a b hT
  simp [execOp, hx, hy, go_sem, h1, h2]; cases a <;> cases b <;> rfl
theorem r_alloc {v : Value} (hz : (zeroValue T).run P w = .ok v w) : (execOp ρ ⟨d, .alloc T, ty, pos, aft, g⟩).run P w = .ok (.value (.pointer (some ⟨w.heap.size, 0, none⟩))) (w.alloc (.cells v.cells T)) := by
  simp [execOp, hz, go_sem]
theorem r_box : (execOp ρ ⟨d, .box T x, ty, pos, aft, g⟩).run P w = .ok (.value (.pointer (some ⟨w.heap.size, 0, none⟩))) (w.alloc (.cells (ρ x).cells T)) := by
  simp [execOp, go_sem]
theorem r_eqS {a b : List UInt8} (hx : ρ x = .string (S a)) (hy : ρ y = .string (S b)) : (execOp ρ ⟨d, .binOp .eql T x y T', ty, pos, aft, g⟩).run P w = .ok (.value (.bool (decide (a = b)))) w := by
  simp [execOp, hx, hy, go_sem]; exact beq_dec a b
theorem r_neS {a b : List UInt8} (hx : ρ x = .string (S a)) (hy : ρ y = .string (S b)) : (execOp ρ ⟨d, .binOp .neq T x y T', ty, pos, aft, g⟩).run P w = .ok (.value (.bool (!decide (a = b)))) w := by
  simp [execOp, hx, hy, go_sem, bne, beq_dec]
theorem r_addS {a b : List UInt8} (hx : ρ x = .string (S a)) (hy : ρ y = .string (S b)) (hl : a.length + b.length ≤ 9223372036854775807) : (execOp ρ ⟨d, .binOp .add T x y T', ty, pos, aft, g⟩).run P w = .ok (.value (.string (S (a ++ b)))) w := by
  simp [execOp, hx, hy, go_sem]
  rw [if_neg (by omega), S_append]
theorem r_len {a : List UInt8} (hx : ρ x = .string (S a)) (hT : P.underlying T = some (.string)) : (execOp ρ ⟨d, .call ⟨.builtin .len, #[x], #[T]⟩, ty, pos, aft, g⟩).run P w = .ok (.value (.int .i64 a.length)) w := by
  simp [execOp, hx, go_sem, hT]
theorem r_lenL {a : Option Addr} {n c : Nat} {u : TypeId} (hx : ρ x = .slice a n c) (hT : P.underlying T = some (.slice u)) : (execOp ρ ⟨d, .call ⟨.builtin .len, #[x], #[T]⟩, ty, pos, aft, g⟩).run P w = .ok (.value (.int .i64 n)) w := by
  simp [execOp, hx, go_sem, hT]
theorem r_ext {vs : Array Value} {v : Value} {i : Nat} (hx : ρ x = .tuple vs) (h : vs[i]? = some v) : (execOp ρ ⟨d, .extract x i, ty, pos, aft, g⟩).run P w = .ok (.value v) w := by
  simp [execOp, hx, go_sem, h]
theorem r_faddr {a : Addr} {fs : Array Field} {f : Field} {i : Nat} {inf : TypeInfo} (hx : ρ x = .pointer (some a)) (hT : P.underlying T = some (.struct fs)) (hf : fs[i]? = some f) (hi : P.info? f.type = some inf) (hs : inf.size ≠ 0) : (execOp ρ ⟨d, .fieldAddr T x i, ty, pos, aft, g⟩).run P w = .ok (.value (.pointer (some (a.add f.offset)))) w := by
  simp [execOp, hx, go_sem, run_underlying hT, hf, hi, hs, Instr.fieldAt, Instr.sureAddr, fieldPlace, sizeOf, typeInfo]
theorem r_idxS {a : List UInt8} {i : Int} {k : IntKind} (hx : ρ x = .string (S a)) (hy : ρ y = .int k i) (hT : P.underlying T = some (.string)) (h0 : 0 ≤ i) (h1 : i < a.length) : (execOp ρ ⟨d, .index T x y, ty, pos, aft, g⟩).run P w = .ok (.value (.int .u8 (a.getD i.toNat 0).toNat)) w := by
  simp [execOp, hx, hy, go_sem, hT]
  rw [dif_pos ⟨h0, h1⟩]
  have : i.toNat < a.length := by omega
  simp [this, S]
  rfl
theorem r_slcS {a : List UInt8} {lo hi : Option Operand} {i j : Int} {ki kj : IntKind} (hx : ρ x = .string (S a)) (hT : P.underlying T = some (.string))
    (hlo : (lo = none ∧ i = 0) ∨ ∃ y, lo = some y ∧ ρ y = .int ki i) (hhi : (hi = none ∧ j = a.length) ∨ ∃ y, hi = some y ∧ ρ y = .int kj j) (h0 : 0 ≤ i) (h1 : i ≤ j) (h2 : j ≤ a.length) :
    (execOp ρ ⟨d, .slice T x lo hi none, ty, pos, aft, g⟩).run P w = .ok (.value (.string (S ((a.take j.toNat).drop i.toNat)))) w := by
  rcases hlo with ⟨rfl, rfl⟩ | ⟨y, rfl, hy⟩ <;> rcases hhi with ⟨rfl, rfl⟩ | ⟨z, rfl, hz⟩ <;>
  simp [execOp, go_sem, run_underlying hT, Instr.sliceAt, Instr.slice, Instr.sliceBounds, Instr.sliceBound, asIntOf, S_extract, *] <;>
  (rw [if_pos (by omega), if_pos (by omega)])
theorem r_conv {k k' : IntKind} {a : Int} (hx : ρ x = .int k a) (hT : P.underlying T = some (.int k)) (hT' : P.underlying T' = some (.int k')) : (execOp ρ ⟨d, .convert T T' x, ty, pos, aft, g⟩).run P w = .ok (.value (.int k' (k'.wrap a))) w := by
  simp [execOp, hx, go_sem, hT, hT']
theorem r_makeF {ps qs : Array Operand} {fn : Fn} : (execOp ρ ⟨d, .makeFunc fn ps qs, ty, pos, aft, g⟩).run P w = .ok (.value (.func fn (ps.map ρ) (qs.map ρ))) w := by
  simp [execOp, go_sem]
theorem r_min {a b : Int} (hx : ρ x = .int .i64 a) (hy : ρ y = .int .i64 b) {Ts : Array TypeId} : (execOp ρ ⟨d, .call ⟨.builtin .min, #[x, y], Ts⟩, ty, pos, aft, g⟩).run P w = .ok (.value (.int .i64 (min a b))) w := by
  simp [execOp, hx, hy, go_sem]; omega
theorem r_max {a b : Int} (hx : ρ x = .int .i64 a) (hy : ρ y = .int .i64 b) {Ts : Array TypeId} : (execOp ρ ⟨d, .call ⟨.builtin .max, #[x, y], Ts⟩, ty, pos, aft, g⟩).run P w = .ok (.value (.int .i64 (max a b))) w := by
  simp [execOp, hx, hy, go_sem]; omega
theorem r_call {f : FuncId} {args : Array Operand} {Ts : Array TypeId} {fn : Func} {first cap : Array Value} (hx : ρ x = .func (.func f) first cap) (hf : P.funcs[f]? = some fn) (hn : ¬ fn.name = "runtime.NumGoroutine") (hb : ¬ fn.body = none) : (execOp ρ ⟨d, .call ⟨.value x, args, Ts⟩, ty, pos, aft, g⟩).run P w = .ok (.enter f (first ++ args.map ρ ++ cap)) w := by
  simp [execOp, hx, go_sem, callFunc, hf, hn, hb]
end
/-! ## what is known of a type -/
class TInt (P : Program) (T : TypeId) (k : outParam IntKind) : Prop where h : P.underlying T = some (.int k)
class TBool (P : Program) (T : TypeId) : Prop where h : P.underlying T = some .bool
class TStr (P : Program) (T : TypeId) : Prop where h : P.underlying T = some .string
class TSlice (P : Program) (T : TypeId) (u : outParam TypeId) : Prop where h : P.underlying T = some (.slice u)
class TMap (P : Program) (T : TypeId) (K : outParam TypeId) (U : outParam TypeId) : Prop where h : P.underlying T = some (.map K U)
def fieldOff (P : Program) (T : TypeId) (i : Nat) : Option Nat :=
  match P.underlying T with
  | some (.struct fs) => match fs[i]? with
    | some f => match P.info? f.type with
      | some inf => if inf.size = 0 then none else some f.offset
      | none => none
    | none => none
  | _ => none
class TField (P : Program) (T : TypeId) (i : Nat) (o : outParam Nat) : Prop where h : fieldOff P T i = some o
theorem TField.run {P : Program} {T : TypeId} {i o : Nat} [h : TField P T i o] {ρ : Operand → Value} {x : Operand} {q : Addr} (hx : ρ x = .pointer (some q)) {d : Option Tmp} {ty : TypeId} {pos : String} {aft : Array Edge} {g : Option (Nat × Bool)} {w : World} :
    (execOp ρ ⟨d, .fieldAddr T x i, ty, pos, aft, g⟩).run P w = .ok (.value (.pointer (some (q.add o)))) w := by
  have h := h.h
  unfold fieldOff at h
  cases hu : P.underlying T with
  | none => simp [hu] at h
  | some dd =>
    cases dd with
    | struct fs =>
      simp only [hu] at h
      cases hf : fs[i]? with
      | none => simp [hf] at h
      | some f =>
        simp only [hf] at h
        cases hi : P.info? f.type with
        | none => simp [hi] at h
        | some inf =>
          simp only [hi] at h
          split at h
          · simp at h
          · rename_i hs
            simp only [Option.some.injEq] at h
            rw [r_faddr hx hu hf hi hs, h]
    | _ => simp [hu] at h
theorem Addr.add0 (b o : Nat) : (⟨b, 0, none⟩ : Addr).add o = ⟨b, o, none⟩ := by unfold Addr.add; split <;> simp_all
section
variable {P : Program} {n : Nat} {w0 : World} {L0 : Heap} {all rest : List Oper} {E : Env} {L : Heap} {Q : Post}
variable {d : Nat} {x y z : Operand} {T T' ty : TypeId} {pos : String} {aft : Array Edge} {g : Option (Nat × Bool)} {G : Bool}

/-- the guard's value, and that the slot is there -/
def Pre (n : Nat) (all : List Oper) (E : Env) (g : Option (Nat × Bool)) (d : Nat) (G : Bool) : Prop := gd all E g = some G ∧ Nat.blt d n = true

/-- an operation that yields a value, and turns nothing that is held -/
def Quiet (P : Program) (n : Nat) (w0 : World) (L0 : Heap) (all : List Oper) (o : Oper) (E : Env) (L : Heap) (d : Nat) (G : Bool) (v : Value) : Prop :=
  o.dst = some d ∧ Pre n all E o.guard d G ∧ (G = true → ∀ a w L2, L.Sublist L2 → EnvOk n E a → Upd w0 L0 w L2 → ∀ (K : Act → World → Prop) Q, (∀ w', Upd w0 L0 w' L2 → K (a.put (some d) v) w') → o.wp P a w K Q)
/-- the same, of an operation that turns nothing at all -/
def QV (P : Program) (n : Nat) (w0 : World) (L0 : Heap) (all : List Oper) (o : Oper) (E : Env) (L : Heap) (d : Nat) (G : Bool) (v : Value) : Prop :=
  o.dst = some d ∧ Pre n all E o.guard d G ∧ (G = true → ∀ a w, EnvOk n E a → Upd w0 L0 w L → (execOp a.eval o).run P w = .ok (.value v) w)
theorem O.val {o : Oper} {v : Value} (hd : o.dst = some d) (hp : Pre n all E o.guard d G)
    (hr : G = true → ∀ a w, EnvOk n E a → Upd w0 L0 w L → (execOp a.eval o).run P w = .ok (.value v) w) : QV P n w0 L0 all o E L d G v := ⟨hd, hp, hr⟩
theorem QV.q {o : Oper} {v : Value} (h : QV P n w0 L0 all o E L d G v) : Quiet P n w0 L0 all o E L d G v :=
  ⟨h.1, h.2.1, fun hG a w L2 hs ha hw K Q hK => by
    simp only [Oper.wp, h.2.2 hG a w ha (hw.sub hs), Oper.upon, h.1]
    exact hK w hw⟩
theorem W.q {o : Oper} {v : Value} (h : Quiet P n w0 L0 all o E L d G v) (k : WL P n w0 L0 all rest ((d, G, v) :: E) L Q) : WL P n w0 L0 all (o :: rest) E L Q := by
  intro a w ha hw
  obtain ⟨hd, hp, hr⟩ := h
  have hwant := gd_wanted ha hp.1
  have hlt : d < n := by simpa using hp.2
  refine wpList_step fun K hK => ?_
  rw [hwant]
  cases G with
  | true =>
    simp only [if_true]
    exact hr rfl a w L (List.Sublist.refl _) ha hw K _ fun w' hw' => hK _ _ (k _ w' (ha.put (G := true) hlt) hw')
  | false =>
    simp only [hd]
    exact hK _ _ (k _ w (ha.put (G := false) hlt) hw)

theorem W.p {o : Oper} {v : Value} (h : QV P n w0 L0 all o E L d G v) (k : WL P n w0 L0 all rest ((d, G, v) :: E) L Q) : WL P n w0 L0 all (o :: rest) E L Q := W.q h.q k

theorem O.mv {v : Value} (hp : Pre n all E g d G := by exact ⟨rfl, rfl⟩) (hx : Val G E x v := by first | exact vt rfl | exact vs rfl | exact vi rfl and1 | exact vi rfl (fun h => and1 (and1 h)) | exact vi rfl (by simp +contextual)) : QV P n w0 L0 all ⟨some d, .move x, ty, pos, aft, g⟩ E L d G (v) :=
  O.val rfl hp (fun hG a w ha hw => by rw [r_move, hx.eval hG ha])
theorem O.as {v : Value} (hp : Pre n all E g d G := by exact ⟨rfl, rfl⟩) (hx : Val G E x v := by first | exact vt rfl | exact vs rfl | exact vi rfl and1 | exact vi rfl (fun h => and1 (and1 h)) | exact vi rfl (by simp +contextual)) : QV P n w0 L0 all ⟨some d, .assign x, ty, pos, aft, g⟩ E L d G (v) :=
  O.val rfl hp (fun hG a w ha hw => by rw [r_assign, hx.eval hG ha])
theorem O.nt {b : Bool} (hp : Pre n all E g d G := by exact ⟨rfl, rfl⟩) (hx : Val G E x (.bool b) := by first | exact vt rfl | exact vs rfl | exact vi rfl and1 | exact vi rfl (fun h => and1 (and1 h)) | exact vi rfl (by simp +contextual)) : QV P n w0 L0 all ⟨some d, .unOp .not T x, ty, pos, aft, g⟩ E L d G (.bool (!b)) :=
  O.val rfl hp (fun hG a w ha hw => by rw [r_not (hx.eval hG ha)])
theorem O.pk {b : Bool} {u v : Value} (hp : Pre n all E g d G := by exact ⟨rfl, rfl⟩) (hx : Val G E x (.bool b) := by first | exact vt rfl | exact vs rfl | exact vi rfl and1 | exact vi rfl (fun h => and1 (and1 h)) | exact vi rfl (by simp +contextual)) (hy : Val (G && b) E y u := by first | exact vt rfl | exact vs rfl | exact vi rfl and1 | exact vi rfl (fun h => and1 (and1 h)) | exact vi rfl (by simp +contextual)) (hz : Val (G && !b) E z v := by first | exact vt rfl | exact vs rfl | exact vi rfl and1 | exact vi rfl (fun h => and1 (and1 h)) | exact vi rfl (by simp +contextual)) : QV P n w0 L0 all ⟨some d, .pick x y z, ty, pos, aft, g⟩ E L d G (bif b then u else v) :=
  O.val rfl hp (fun hG a w ha hw => by
    rw [r_pick (hx.eval hG ha)]
    cases b with
    | true => rw [cond_true, cond_true, hy.eval (by simp [hG]) ha]
    | false => rw [cond_false, cond_false, hz.eval (by simp [hG]) ha])
/-- 'a && b', 'a || b' -/
theorem O.pkB {b u v : Bool} (hp : Pre n all E g d G := by exact ⟨rfl, rfl⟩) (hx : Val G E x (.bool b) := by first | exact vt rfl | exact vs rfl | exact vi rfl and1 | exact vi rfl (fun h => and1 (and1 h)) | exact vi rfl (by simp +contextual)) (hy : Val (G && b) E y (.bool u) := by first | exact vt rfl | exact vs rfl | exact vi rfl and1 | exact vi rfl (fun h => and1 (and1 h)) | exact vi rfl (by simp +contextual)) (hz : Val (G && !b) E z (.bool v) := by first | exact vt rfl | exact vs rfl | exact vi rfl and1 | exact vi rfl (fun h => and1 (and1 h)) | exact vi rfl (by simp +contextual)) : QV P n w0 L0 all ⟨some d, .pick x y z, ty, pos, aft, g⟩ E L d G (.bool (bif b then u else v)) := by
  have := O.pk (P := P) (w0 := w0) (L0 := L0) (L := L) (ty := ty) (pos := pos) (aft := aft) hp hx hy hz
  cases b <;> exact this

theorem O.add {p q : Int} {k : IntKind} (hp : Pre n all E g d G := by exact ⟨rfl, rfl⟩) (hx : Val G E x (.int k p) := by first | exact vt rfl | exact vs rfl | exact vi rfl and1 | exact vi rfl (fun h => and1 (and1 h)) | exact vi rfl (by simp +contextual)) (hy : Val G E y (.int k q) := by first | exact vt rfl | exact vs rfl | exact vi rfl and1 | exact vi rfl (fun h => and1 (and1 h)) | exact vi rfl (by simp +contextual)) : QV P n w0 L0 all ⟨some d, .binOp .add T x y T', ty, pos, aft, g⟩ E L d G (.int k (k.wrap (p + q))) :=
  O.val rfl hp (fun hG a w ha hw => by rw [r_add (hx.eval hG ha) (hy.eval hG ha)])
theorem O.sub {p q : Int} {k : IntKind} (hp : Pre n all E g d G := by exact ⟨rfl, rfl⟩) (hx : Val G E x (.int k p) := by first | exact vt rfl | exact vs rfl | exact vi rfl and1 | exact vi rfl (fun h => and1 (and1 h)) | exact vi rfl (by simp +contextual)) (hy : Val G E y (.int k q) := by first | exact vt rfl | exact vs rfl | exact vi rfl and1 | exact vi rfl (fun h => and1 (and1 h)) | exact vi rfl (by simp +contextual)) : QV P n w0 L0 all ⟨some d, .binOp .sub T x y T', ty, pos, aft, g⟩ E L d G (.int k (k.wrap (p - q))) :=
  O.val rfl hp (fun hG a w ha hw => by rw [r_sub (hx.eval hG ha) (hy.eval hG ha)])
theorem O.mul {p q : Int} {k : IntKind} (hp : Pre n all E g d G := by exact ⟨rfl, rfl⟩) (hx : Val G E x (.int k p) := by first | exact vt rfl | exact vs rfl | exact vi rfl and1 | exact vi rfl (fun h => and1 (and1 h)) | exact vi rfl (by simp +contextual)) (hy : Val G E y (.int k q) := by first | exact vt rfl | exact vs rfl | exact vi rfl and1 | exact vi rfl (fun h => and1 (and1 h)) | exact vi rfl (by simp +contextual)) : QV P n w0 L0 all ⟨some d, .binOp .mul T x y T', ty, pos, aft, g⟩ E L d G (.int k (k.wrap (p * q))) :=
  O.val rfl hp (fun hG a w ha hw => by rw [r_mul (hx.eval hG ha) (hy.eval hG ha)])
theorem O.lss {p q : Int} {k : IntKind} (hp : Pre n all E g d G := by exact ⟨rfl, rfl⟩) (hx : Val G E x (.int k p) := by first | exact vt rfl | exact vs rfl | exact vi rfl and1 | exact vi rfl (fun h => and1 (and1 h)) | exact vi rfl (by simp +contextual)) (hy : Val G E y (.int k q) := by first | exact vt rfl | exact vs rfl | exact vi rfl and1 | exact vi rfl (fun h => and1 (and1 h)) | exact vi rfl (by simp +contextual)) : QV P n w0 L0 all ⟨some d, .binOp .lss T x y T', ty, pos, aft, g⟩ E L d G (.bool (decide (p < q))) :=
  O.val rfl hp (fun hG a w ha hw => by rw [r_lss (hx.eval hG ha) (hy.eval hG ha)])
theorem O.leq {p q : Int} {k : IntKind} (hp : Pre n all E g d G := by exact ⟨rfl, rfl⟩) (hx : Val G E x (.int k p) := by first | exact vt rfl | exact vs rfl | exact vi rfl and1 | exact vi rfl (fun h => and1 (and1 h)) | exact vi rfl (by simp +contextual)) (hy : Val G E y (.int k q) := by first | exact vt rfl | exact vs rfl | exact vi rfl and1 | exact vi rfl (fun h => and1 (and1 h)) | exact vi rfl (by simp +contextual)) : QV P n w0 L0 all ⟨some d, .binOp .leq T x y T', ty, pos, aft, g⟩ E L d G (.bool (decide (p ≤ q))) :=
  O.val rfl hp (fun hG a w ha hw => by rw [r_leq (hx.eval hG ha) (hy.eval hG ha)])
theorem O.gtr {p q : Int} {k : IntKind} (hp : Pre n all E g d G := by exact ⟨rfl, rfl⟩) (hx : Val G E x (.int k p) := by first | exact vt rfl | exact vs rfl | exact vi rfl and1 | exact vi rfl (fun h => and1 (and1 h)) | exact vi rfl (by simp +contextual)) (hy : Val G E y (.int k q) := by first | exact vt rfl | exact vs rfl | exact vi rfl and1 | exact vi rfl (fun h => and1 (and1 h)) | exact vi rfl (by simp +contextual)) : QV P n w0 L0 all ⟨some d, .binOp .gtr T x y T', ty, pos, aft, g⟩ E L d G (.bool (decide (q < p))) :=
  O.val rfl hp (fun hG a w ha hw => by rw [r_gtr (hx.eval hG ha) (hy.eval hG ha)])
theorem O.geq {p q : Int} {k : IntKind} (hp : Pre n all E g d G := by exact ⟨rfl, rfl⟩) (hx : Val G E x (.int k p) := by first | exact vt rfl | exact vs rfl | exact vi rfl and1 | exact vi rfl (fun h => and1 (and1 h)) | exact vi rfl (by simp +contextual)) (hy : Val G E y (.int k q) := by first | exact vt rfl | exact vs rfl | exact vi rfl and1 | exact vi rfl (fun h => and1 (and1 h)) | exact vi rfl (by simp +contextual)) : QV P n w0 L0 all ⟨some d, .binOp .geq T x y T', ty, pos, aft, g⟩ E L d G (.bool (decide (q ≤ p))) :=
  O.val rfl hp (fun hG a w ha hw => by rw [r_geq (hx.eval hG ha) (hy.eval hG ha)])
theorem O.eqI {p q : Int} {k : IntKind} (hp : Pre n all E g d G := by exact ⟨rfl, rfl⟩) (hx : Val G E x (.int k p) := by first | exact vt rfl | exact vs rfl | exact vi rfl and1 | exact vi rfl (fun h => and1 (and1 h)) | exact vi rfl (by simp +contextual)) (hy : Val G E y (.int k q) := by first | exact vt rfl | exact vs rfl | exact vi rfl and1 | exact vi rfl (fun h => and1 (and1 h)) | exact vi rfl (by simp +contextual)) : QV P n w0 L0 all ⟨some d, .binOp .eql T x y T', ty, pos, aft, g⟩ E L d G (.bool (decide (p = q))) :=
  O.val rfl hp (fun hG a w ha hw => by rw [r_eqI (hx.eval hG ha) (hy.eval hG ha)])
theorem O.neI {p q : Int} {k : IntKind} (hp : Pre n all E g d G := by exact ⟨rfl, rfl⟩) (hx : Val G E x (.int k p) := by first | exact vt rfl | exact vs rfl | exact vi rfl and1 | exact vi rfl (fun h => and1 (and1 h)) | exact vi rfl (by simp +contextual)) (hy : Val G E y (.int k q) := by first | exact vt rfl | exact vs rfl | exact vi rfl and1 | exact vi rfl (fun h => and1 (and1 h)) | exact vi rfl (by simp +contextual)) : QV P n w0 L0 all ⟨some d, .binOp .neq T x y T', ty, pos, aft, g⟩ E L d G (.bool (!decide (p = q))) :=
  O.val rfl hp (fun hG a w ha hw => by rw [r_neI (hx.eval hG ha) (hy.eval hG ha)])
theorem O.eqS {p q : List UInt8} (hp : Pre n all E g d G := by exact ⟨rfl, rfl⟩) (hx : Val G E x (.string (S p)) := by first | exact vt rfl | exact vs rfl | exact vi rfl and1 | exact vi rfl (fun h => and1 (and1 h)) | exact vi rfl (by simp +contextual)) (hy : Val G E y (.string (S q)) := by first | exact vt rfl | exact vs rfl | exact vi rfl and1 | exact vi rfl (fun h => and1 (and1 h)) | exact vi rfl (by simp +contextual)) : QV P n w0 L0 all ⟨some d, .binOp .eql T x y T', ty, pos, aft, g⟩ E L d G (.bool (decide (p = q))) :=
  O.val rfl hp (fun hG a w ha hw => by rw [r_eqS (hx.eval hG ha) (hy.eval hG ha)])
theorem O.neS {p q : List UInt8} (hp : Pre n all E g d G := by exact ⟨rfl, rfl⟩) (hx : Val G E x (.string (S p)) := by first | exact vt rfl | exact vs rfl | exact vi rfl and1 | exact vi rfl (fun h => and1 (and1 h)) | exact vi rfl (by simp +contextual)) (hy : Val G E y (.string (S q)) := by first | exact vt rfl | exact vs rfl | exact vi rfl and1 | exact vi rfl (fun h => and1 (and1 h)) | exact vi rfl (by simp +contextual)) : QV P n w0 L0 all ⟨some d, .binOp .neq T x y T', ty, pos, aft, g⟩ E L d G (.bool (!decide (p = q))) :=
  O.val rfl hp (fun hG a w ha hw => by rw [r_neS (hx.eval hG ha) (hy.eval hG ha)])
theorem O.addS {p q : List UInt8} (hp : Pre n all E g d G := by exact ⟨rfl, rfl⟩) (hx : Val G E x (.string (S p)) := by first | exact vt rfl | exact vs rfl | exact vi rfl and1 | exact vi rfl (fun h => and1 (and1 h)) | exact vi rfl (by simp +contextual)) (hy : Val G E y (.string (S q)) := by first | exact vt rfl | exact vs rfl | exact vi rfl and1 | exact vi rfl (fun h => and1 (and1 h)) | exact vi rfl (by simp +contextual)) (hl : G = true → p.length + q.length ≤ 9223372036854775807 := by (intro _; first | omega | (simp <;> omega))) : QV P n w0 L0 all ⟨some d, .binOp .add T x y T', ty, pos, aft, g⟩ E L d G (.string (S (p ++ q))) :=
  O.val rfl hp (fun hG a w ha hw => by rw [r_addS (hx.eval hG ha) (hy.eval hG ha) (hl hG)])
theorem O.eqB {p q : Bool} [TBool P T] (hp : Pre n all E g d G := by exact ⟨rfl, rfl⟩) (hx : Val G E x (.bool p) := by first | exact vt rfl | exact vs rfl | exact vi rfl and1 | exact vi rfl (fun h => and1 (and1 h)) | exact vi rfl (by simp +contextual)) (hy : Val G E y (.bool q) := by first | exact vt rfl | exact vs rfl | exact vi rfl and1 | exact vi rfl (fun h => and1 (and1 h)) | exact vi rfl (by simp +contextual)) : QV P n w0 L0 all ⟨some d, .binOp .eql T x y T', ty, pos, aft, g⟩ E L d G (.bool (p == q)) :=
  O.val rfl hp (fun hG a w ha hw => by rw [r_eqB (hx.eval hG ha) (hy.eval hG ha) TBool.h])
theorem O.neB {p q : Bool} [TBool P T] (hp : Pre n all E g d G := by exact ⟨rfl, rfl⟩) (hx : Val G E x (.bool p) := by first | exact vt rfl | exact vs rfl | exact vi rfl and1 | exact vi rfl (fun h => and1 (and1 h)) | exact vi rfl (by simp +contextual)) (hy : Val G E y (.bool q) := by first | exact vt rfl | exact vs rfl | exact vi rfl and1 | exact vi rfl (fun h => and1 (and1 h)) | exact vi rfl (by simp +contextual)) : QV P n w0 L0 all ⟨some d, .binOp .neq T x y T', ty, pos, aft, g⟩ E L d G (.bool (p != q)) :=
  O.val rfl hp (fun hG a w ha hw => by rw [r_neB (hx.eval hG ha) (hy.eval hG ha) TBool.h])
theorem O.len {p : List UInt8} [TStr P T] (hp : Pre n all E g d G := by exact ⟨rfl, rfl⟩) (hx : Val G E x (.string (S p)) := by first | exact vt rfl | exact vs rfl | exact vi rfl and1 | exact vi rfl (fun h => and1 (and1 h)) | exact vi rfl (by simp +contextual)) : QV P n w0 L0 all ⟨some d, .call ⟨.builtin .len, #[x], #[T]⟩, ty, pos, aft, g⟩ E L d G (.int .i64 p.length) :=
  O.val rfl hp (fun hG a w ha hw => by rw [r_len (hx.eval hG ha) TStr.h])
theorem O.lenL {q : Option Addr} {m c : Nat} {u : TypeId} [TSlice P T u] (hp : Pre n all E g d G := by exact ⟨rfl, rfl⟩) (hx : Val G E x (.slice q m c) := by first | exact vt rfl | exact vs rfl | exact vi rfl and1 | exact vi rfl (fun h => and1 (and1 h)) | exact vi rfl (by simp +contextual)) : QV P n w0 L0 all ⟨some d, .call ⟨.builtin .len, #[x], #[T]⟩, ty, pos, aft, g⟩ E L d G (.int .i64 m) :=
  O.val rfl hp (fun hG a w ha hw => by rw [r_lenL (hx.eval hG ha) (TSlice.h)])
theorem O.ext {vs : Array Value} {v : Value} {i : Nat} (hp : Pre n all E g d G := by exact ⟨rfl, rfl⟩) (hx : Val G E x (.tuple vs) := by first | exact vt rfl | exact vs rfl | exact vi rfl and1 | exact vi rfl (fun h => and1 (and1 h)) | exact vi rfl (by simp +contextual)) (hi : vs[i]? = some v := by rfl) : QV P n w0 L0 all ⟨some d, .extract x i, ty, pos, aft, g⟩ E L d G (v) :=
  O.val rfl hp (fun hG a w ha hw => by rw [r_ext (hx.eval hG ha) hi])
theorem O.fa {q : Addr} {i o : Nat} [TField P T i o] (hp : Pre n all E g d G := by exact ⟨rfl, rfl⟩) (hx : Val G E x (.pointer (some q)) := by first | exact vt rfl | exact vs rfl | exact vi rfl and1 | exact vi rfl (fun h => and1 (and1 h)) | exact vi rfl (by simp +contextual)) : QV P n w0 L0 all ⟨some d, .fieldAddr T x i, ty, pos, aft, g⟩ E L d G (.pointer (some (q.add o))) :=
  O.val rfl hp (fun hG a w ha hw => TField.run (T := T) (hx.eval hG ha))
/-- the address of a field of a block -/
theorem O.fb {b : Nat} {i o : Nat} [TField P T i o] (hp : Pre n all E g d G := by exact ⟨rfl, rfl⟩) (hx : Val G E x (.pointer (some ⟨b, 0, none⟩)) := by first | exact vt rfl | exact vs rfl | exact vi rfl and1 | exact vi rfl (fun h => and1 (and1 h)) | exact vi rfl (by simp +contextual)) : QV P n w0 L0 all ⟨some d, .fieldAddr T x i, ty, pos, aft, g⟩ E L d G (.pointer (some ⟨b, o, none⟩)) := by
  rw [← Addr.add0]; exact O.fa (o := o) hp hx
theorem O.idxS {p : List UInt8} {i : Int} {k : IntKind} [TStr P T] (hp : Pre n all E g d G := by exact ⟨rfl, rfl⟩) (hx : Val G E x (.string (S p)) := by first | exact vt rfl | exact vs rfl | exact vi rfl and1 | exact vi rfl (fun h => and1 (and1 h)) | exact vi rfl (by simp +contextual)) (hy : Val G E y (.int k i) := by first | exact vt rfl | exact vs rfl | exact vi rfl and1 | exact vi rfl (fun h => and1 (and1 h)) | exact vi rfl (by simp +contextual)) (h : G = true → 0 ≤ i ∧ i < p.length := by (intro hg; first | omega | (simp only [cond_true, cond_false, Bool.true_and, Bool.cond_false_right, Bool.cond_true_left, Bool.and_eq_true, Bool.or_eq_true, Bool.not_eq_true', Bool.not_eq_false', decide_eq_true_eq, decide_eq_false_iff_not, ← List.length_eq_zero_iff, List.length_cons, List.length_append, List.length_drop, List.length_take, Int.reduceToNat] at *; omega))) : QV P n w0 L0 all ⟨some d, .index T x y, ty, pos, aft, g⟩ E L d G (.int .u8 (p.getD i.toNat 0).toNat) :=
  O.val rfl hp (fun hG a w ha hw => by rw [r_idxS (hx.eval hG ha) (hy.eval hG ha) TStr.h (h hG).1 (h hG).2])
theorem O.slc {p : List UInt8} {i : Int} {ki : IntKind} {j : Int} {kj : IntKind} [TStr P T] (hp : Pre n all E g d G := by exact ⟨rfl, rfl⟩) (hx : Val G E x (.string (S p)) := by first | exact vt rfl | exact vs rfl | exact vi rfl and1 | exact vi rfl (fun h => and1 (and1 h)) | exact vi rfl (by simp +contextual)) (hy : Val G E y (.int ki i) := by first | exact vt rfl | exact vs rfl | exact vi rfl and1 | exact vi rfl (fun h => and1 (and1 h)) | exact vi rfl (by simp +contextual)) (hz : Val G E z (.int kj j) := by first | exact vt rfl | exact vs rfl | exact vi rfl and1 | exact vi rfl (fun h => and1 (and1 h)) | exact vi rfl (by simp +contextual)) (h : G = true → 0 ≤ i ∧ i ≤ j ∧ j ≤ p.length := by (intro hg; first | omega | (simp only [cond_true, cond_false, Bool.true_and, Bool.cond_false_right, Bool.cond_true_left, Bool.and_eq_true, Bool.or_eq_true, Bool.not_eq_true', Bool.not_eq_false', decide_eq_true_eq, decide_eq_false_iff_not, ← List.length_eq_zero_iff, List.length_cons, List.length_append, List.length_drop, List.length_take, Int.reduceToNat] at *; omega))) : QV P n w0 L0 all ⟨some d, .slice T x (some y) (some z) none, ty, pos, aft, g⟩ E L d G (.string (S ((p.take j.toNat).drop i.toNat))) :=
  O.val rfl hp (fun hG a w ha hw => by rw [r_slcS (i := i) (j := j) (ki := ki) (kj := kj) (hx.eval hG ha) TStr.h (.inr ⟨y, rfl, hy.eval hG ha⟩) (.inr ⟨z, rfl, hz.eval hG ha⟩) (h hG).1 (h hG).2.1 (h hG).2.2])
theorem O.slcL {p : List UInt8} {i : Int} {ki : IntKind} [TStr P T] (hp : Pre n all E g d G := by exact ⟨rfl, rfl⟩) (hx : Val G E x (.string (S p)) := by first | exact vt rfl | exact vs rfl | exact vi rfl and1 | exact vi rfl (fun h => and1 (and1 h)) | exact vi rfl (by simp +contextual)) (hy : Val G E y (.int ki i) := by first | exact vt rfl | exact vs rfl | exact vi rfl and1 | exact vi rfl (fun h => and1 (and1 h)) | exact vi rfl (by simp +contextual)) (h : G = true → 0 ≤ i ∧ i ≤ p.length := by (intro hg; first | omega | (simp only [cond_true, cond_false, Bool.true_and, Bool.cond_false_right, Bool.cond_true_left, Bool.and_eq_true, Bool.or_eq_true, Bool.not_eq_true', Bool.not_eq_false', decide_eq_true_eq, decide_eq_false_iff_not, ← List.length_eq_zero_iff, List.length_cons, List.length_append, List.length_drop, List.length_take, Int.reduceToNat] at *; omega))) : QV P n w0 L0 all ⟨some d, .slice T x (some y) none none, ty, pos, aft, g⟩ E L d G (.string (S (p.drop i.toNat))) :=
  O.val rfl hp (fun hG a w ha hw => by rw [r_slcS (i := i) (j := (p.length : Int)) (ki := ki) (kj := .i64) (hx.eval hG ha) TStr.h (.inr ⟨y, rfl, hy.eval hG ha⟩) (.inl ⟨rfl, rfl⟩) (h hG).1 (h hG).2 (by omega)]; simp)
theorem O.slcH {p : List UInt8} {j : Int} {kj : IntKind} [TStr P T] (hp : Pre n all E g d G := by exact ⟨rfl, rfl⟩) (hx : Val G E x (.string (S p)) := by first | exact vt rfl | exact vs rfl | exact vi rfl and1 | exact vi rfl (fun h => and1 (and1 h)) | exact vi rfl (by simp +contextual)) (hz : Val G E z (.int kj j) := by first | exact vt rfl | exact vs rfl | exact vi rfl and1 | exact vi rfl (fun h => and1 (and1 h)) | exact vi rfl (by simp +contextual)) (h : G = true → 0 ≤ j ∧ j ≤ p.length := by (intro hg; first | omega | (simp only [cond_true, cond_false, Bool.true_and, Bool.cond_false_right, Bool.cond_true_left, Bool.and_eq_true, Bool.or_eq_true, Bool.not_eq_true', Bool.not_eq_false', decide_eq_true_eq, decide_eq_false_iff_not, ← List.length_eq_zero_iff, List.length_cons, List.length_append, List.length_drop, List.length_take, Int.reduceToNat] at *; omega))) : QV P n w0 L0 all ⟨some d, .slice T x none (some z) none, ty, pos, aft, g⟩ E L d G (.string (S (p.take j.toNat))) :=
  O.val rfl hp (fun hG a w ha hw => by rw [r_slcS (i := (0 : Int)) (j := j) (ki := .i64) (kj := kj) (hx.eval hG ha) TStr.h (.inl ⟨rfl, rfl⟩) (.inr ⟨z, rfl, hz.eval hG ha⟩) (by omega) (h hG).1 (h hG).2]; simp)
theorem O.cv {p : Int} {k k' : IntKind} [TInt P T k] [TInt P T' k'] (hp : Pre n all E g d G := by exact ⟨rfl, rfl⟩) (hx : Val G E x (.int k p) := by first | exact vt rfl | exact vs rfl | exact vi rfl and1 | exact vi rfl (fun h => and1 (and1 h)) | exact vi rfl (by simp +contextual)) : QV P n w0 L0 all ⟨some d, .convert T T' x, ty, pos, aft, g⟩ E L d G (.int k' (k'.wrap p)) :=
  O.val rfl hp (fun hG a w ha hw => by rw [r_conv (hx.eval hG ha) TInt.h TInt.h])
theorem O.min {p q : Int} {Ts : Array TypeId} (hp : Pre n all E g d G := by exact ⟨rfl, rfl⟩) (hx : Val G E x (.int .i64 p) := by first | exact vt rfl | exact vs rfl | exact vi rfl and1 | exact vi rfl (fun h => and1 (and1 h)) | exact vi rfl (by simp +contextual)) (hy : Val G E y (.int .i64 q) := by first | exact vt rfl | exact vs rfl | exact vi rfl and1 | exact vi rfl (fun h => and1 (and1 h)) | exact vi rfl (by simp +contextual)) : QV P n w0 L0 all ⟨some d, .call ⟨.builtin .min, #[x, y], Ts⟩, ty, pos, aft, g⟩ E L d G (.int .i64 (min p q)) :=
  O.val rfl hp (fun hG a w ha hw => by rw [r_min (hx.eval hG ha) (hy.eval hG ha)])
theorem O.max {p q : Int} {Ts : Array TypeId} (hp : Pre n all E g d G := by exact ⟨rfl, rfl⟩) (hx : Val G E x (.int .i64 p) := by first | exact vt rfl | exact vs rfl | exact vi rfl and1 | exact vi rfl (fun h => and1 (and1 h)) | exact vi rfl (by simp +contextual)) (hy : Val G E y (.int .i64 q) := by first | exact vt rfl | exact vs rfl | exact vi rfl and1 | exact vi rfl (fun h => and1 (and1 h)) | exact vi rfl (by simp +contextual)) : QV P n w0 L0 all ⟨some d, .call ⟨.builtin .max, #[x, y], Ts⟩, ty, pos, aft, g⟩ E L d G (.int .i64 (max p q)) :=
  O.val rfl hp (fun hG a w ha hw => by rw [r_max (hx.eval hG ha) (hy.eval hG ha)])
end
/-! ## memory -/
def aggB (P : Program) (T : TypeId) : Option Bool := (P.underlying T).map fun d => match d with | .struct _ | .array _ _ => true | _ => false
class TScal (P : Program) (T : TypeId) : Prop where h : aggB P T = some false
class TSize (P : Program) (T : TypeId) (m : outParam Nat) : Prop where h : (P.info? T).map (·.size) = some m
class TAgg (P : Program) (T : TypeId) (m : outParam Nat) : Prop where
  h : aggB P T = some true
  s : (P.info? T).map (·.size) = some m
class TZero (P : Program) (T : TypeId) (z : outParam Value) : Prop where h : (P.info? T).bind (·.zero) = some z

theorem TZero.run {P : Program} {T : TypeId} {z : Value} [h : TZero P T z] (w : World) : (zeroValue T).run P w = .ok z w := by
  have := h.h
  cases hi : P.info? T with
  | none => simp [hi] at this
  | some i => simp [hi] at this; simp [zeroValue, typeInfo, hi, this, Sem.run_bind]
theorem TSize.run {P : Program} {T : TypeId} {m : Nat} [h : TSize P T m] (w : World) : (sizeOf T).run P w = .ok m w := by
  have := h.h
  cases hi : P.info? T with
  | none => simp [hi] at this
  | some i => simp [hi] at this; simp [sizeOf, typeInfo, hi, this, Sem.run_bind]
theorem TAgg.size {P : Program} {T : TypeId} {m : Nat} [h : TAgg P T m] : TSize P T m := ⟨h.s⟩
theorem run_aggB {P : Program} {T : TypeId} {b : Bool} (h : aggB P T = some b) (w : World) : (isAgg T).run P w = .ok b w := by
  unfold aggB at h
  cases hu : P.underlying T with
  | none => simp [hu] at h
  | some d =>
    simp only [hu, Option.map_some, Option.some.injEq] at h
    unfold isAgg; rw [Sem.run_bind, run_underlying hu w]
    cases d <;> simp_all
theorem TAgg.run {P : Program} {T : TypeId} {m : Nat} [h : TAgg P T m] (w : World) : (isAgg T).run P w = .ok true w := run_aggB h.h w
theorem TScal.run {P : Program} {T : TypeId} [h : TScal P T] (w : World) : (isAgg T).run P w = .ok false w := run_aggB h.h w

/-- where a block stands, what a place of a list holds: found by instances -/
class Blk (L : Heap) (b : Nat) (o : outParam Obj) : Prop where h : (b, o) ∈ L
instance (priority := high) Blk.head {L : Heap} {b : Nat} {o : Obj} : Blk ((b, o) :: L) b o := ⟨.head _⟩
instance Blk.tail {L : Heap} {p : Nat × Obj} {b : Nat} {o : Obj} [h : Blk L b o] : Blk (p :: L) b o := ⟨.tail _ h.h⟩
instance Blk.app {L L' : Heap} {b : Nat} {o : Obj} [h : Blk L b o] : Blk (L' ++ L) b o := ⟨List.mem_append_right _ h.h⟩
instance Blk.appl {L L' : Heap} {b : Nat} {o : Obj} [h : Blk L' b o] : Blk (L' ++ L) b o := ⟨List.mem_append_left _ h.h⟩
class Nth (l : List Value) (i : Nat) (v : outParam Value) : Prop where h : l[i]? = some v
instance Nth.zero {l : List Value} {v : Value} : Nth (v :: l) 0 v := ⟨rfl⟩
instance Nth.zzz {l : List Value} {v : Value} : Nth (v :: l) (0 + 0 + 0) v := ⟨rfl⟩
instance Nth.succ {l : List Value} {i : Nat} {u v : Value} [h : Nth l i v] : Nth (u :: l) (i + 1) v := ⟨by simpa using h.h⟩
class Tk (l : List Value) (m : Nat) (vs : outParam (List Value)) : Prop where h : l.take m = vs ∧ m ≤ l.length
instance Tk.zero {l : List Value} : Tk l 0 [] := ⟨by simp⟩
instance Tk.succ {l vs : List Value} {m : Nat} {v : Value} [h : Tk l m vs] : Tk (v :: l) (m + 1) (v :: vs) := ⟨by simp [h.h.1, h.h.2]⟩
class Sub (l : List Value) (o m : Nat) (vs : outParam (List Value)) : Prop where h : (l.drop o).take m = vs ∧ o + m ≤ l.length
instance Sub.zero {l vs : List Value} {m : Nat} [h : Tk l m vs] : Sub l 0 m vs := ⟨by simp [h.h.1, h.h.2]⟩
/-- a row written over from a place on -/
class Ovr (l : List Value) (o : Nat) (vs : List Value) (l' : outParam (List Value)) : Prop where h : l' = l.take o ++ vs ++ l.drop (o + vs.length) ∧ o + vs.length ≤ l.length
instance Ovr.nil {l : List Value} : Ovr l 0 [] l := ⟨by simp⟩
instance Ovr.zero {l vs l' : List Value} {u v : Value} [h : Ovr l 0 vs l'] : Ovr (u :: l) 0 (v :: vs) (v :: l') := ⟨by have := h.h; simp at this; simp [this.1, this.2, Nat.add_comm]⟩
instance Ovr.succ {l vs l' : List Value} {o : Nat} {u : Value} [h : Ovr l o vs l'] : Ovr (u :: l) (o + 1) vs (u :: l') := ⟨by have := h.h; simp [this.1, Nat.add_right_comm]; omega⟩
/-- one cell's values -/
class One (vs : List Value) : Prop where h : ∀ v ∈ vs, v.oneCell' = true
instance One.nil : One [] := ⟨by simp⟩
instance One.int {k : IntKind} {a : Int} {vs : List Value} [h : One vs] : One (.int k a :: vs) := ⟨by intro v hv; rcases List.mem_cons.1 hv with rfl | hv; rfl; exact h.h v hv⟩
instance One.bool {a : Bool} {vs : List Value} [h : One vs] : One (.bool a :: vs) := ⟨by intro v hv; rcases List.mem_cons.1 hv with rfl | hv; rfl; exact h.h v hv⟩
instance One.str {a : ByteArray} {vs : List Value} [h : One vs] : One (.string a :: vs) := ⟨by intro v hv; rcases List.mem_cons.1 hv with rfl | hv; rfl; exact h.h v hv⟩
instance One.ptr {a : Option Addr} {vs : List Value} [h : One vs] : One (.pointer a :: vs) := ⟨by intro v hv; rcases List.mem_cons.1 hv with rfl | hv; rfl; exact h.h v hv⟩
instance One.slice {a : Option Addr} {n c : Nat} {vs : List Value} [h : One vs] : One (.slice a n c :: vs) := ⟨by intro v hv; rcases List.mem_cons.1 hv with rfl | hv; rfl; exact h.h v hv⟩
/-- a heap in which a block is another one -/
class Rep (L : Heap) (b : Nat) (o o' : Obj) (L' : outParam Heap) : Prop where h : ∃ A B, L = A ++ (b, o) :: B ∧ L' = A ++ (b, o') :: B
instance (priority := high) Rep.head {L : Heap} {b : Nat} {o o' : Obj} : Rep ((b, o) :: L) b o o' ((b, o') :: L) := ⟨[], L, rfl, rfl⟩
instance Rep.tail {L L' : Heap} {p : Nat × Obj} {b : Nat} {o o' : Obj} [h : Rep L b o o' L'] : Rep (p :: L) b o o' (p :: L') := ⟨by obtain ⟨A, B, h1, h2⟩ := h.h; exact ⟨p :: A, B, by simp [h1], by simp [h2]⟩⟩
instance Rep.appl {L L' M : Heap} {b : Nat} {o o' : Obj} [h : Rep L b o o' L'] : Rep (L ++ M) b o o' (L' ++ M) := ⟨by obtain ⟨A, B, h1, h2⟩ := h.h; exact ⟨A, B ++ M, by simp [h1], by simp [h2]⟩⟩
instance Rep.app {L L' M : Heap} {b : Nat} {o o' : Obj} [h : Rep L b o o' L'] : Rep (M ++ L) b o o' (M ++ L') := ⟨by obtain ⟨A, B, h1, h2⟩ := h.h; exact ⟨M ++ A, B, by simp [h1], by simp [h2]⟩⟩

theorem Upd.setRow {w0 w : World} {L0 L L' : Heap} (h : Upd w0 L0 w L) {b : Nat} {cs cs' : Array Value} {T : TypeId} {fr : Nat × Nat} (hr : Rep L b (.cells cs T fr) (.cells cs' T fr) L') : Upd w0 L0 (w.setRow b cs') L' := by
  obtain ⟨A, B, rfl, rfl⟩ := hr.h
  have hb : w.heap[b]? = some (.cells cs T fr) := h.has (b, _) (by simp)
  have hnd := h.nd
  simp only [List.map_append, List.map_cons] at hnd
  rw [List.nodup_append] at hnd
  simp only [List.nodup_cons] at hnd
  have hA : ∀ p ∈ A, p.1 ≠ b := fun p hp e => hnd.2.2 p.1 (List.mem_map_of_mem hp) b (by simp) e
  have hB : ∀ p ∈ B, p.1 ≠ b := fun p hp e => hnd.2.1.1 (e ▸ List.mem_map_of_mem hp)
  refine ⟨h.os, h.tape, h.output, by simpa using h.size, ?_, ?_, ?_, ?_⟩
  · intro k hk hn
    rw [setRow_other w b k cs' (fun e => ?_)]
    · exact h.old k hk hn
    · subst e
      rcases h.own (k, _) (by simp : (k, Obj.cells cs T fr) ∈ A ++ (k, Obj.cells cs T fr) :: B) with hm | hm
      · exact hn hm
      · exact absurd hk (by simp at hm; omega)
  · intro p hp
    rcases List.mem_append.1 hp with hp | hp
    · rw [setRow_other w b p.1 cs' (hA p hp)]; exact h.has p (by simp [hp])
    · rcases List.mem_cons.1 hp with rfl | hp
      · exact setRow_heap w b cs cs' T fr hb
      · rw [setRow_other w b p.1 cs' (hB p hp)]; exact h.has p (by simp [hp])
  · intro p hp
    rcases List.mem_append.1 hp with hp | hp
    · exact h.own p (by simp [hp])
    · rcases List.mem_cons.1 hp with rfl | hp
      · exact h.own (b, Obj.cells cs T fr) (by simp)
      · exact h.own p (by simp [hp])
  · have := h.nd
    simpa using this

section
variable {P : Program} {n : Nat} {w0 : World} {L0 : Heap} {all rest : List Oper} {E : Env} {L : Heap} {Q : Post}
variable {d : Nat} {x y z : Operand} {T T' U ty : TypeId} {pos : String} {aft : Array Edge} {g : Option (Nat × Bool)} {G : Bool} {fz : Nat × Nat}

/-- an operation without guard that makes a block -/
theorem W.new {o : Oper} {v : Nat → Value} {ob : Obj} (hd : o.dst = some d) (hg : o.guard = none) (hn : Nat.blt d n = true)
    (hr : ∀ a w, EnvOk n E a → Upd w0 L0 w L → (execOp a.eval o).run P w = .ok (.value (v w.heap.size)) (w.alloc ob))
    (k : ∀ b, WL P n w0 L0 all rest ((d, true, v b) :: E) ((b, ob) :: L) Q) : WL P n w0 L0 all (o :: rest) E L Q := by
  intro a w ha hw
  have hlt : d < n := by simpa using hn
  refine wpList_plain hg fun K hK => ?_
  simp only [Oper.wp, hr a w ha hw, Oper.upon, hd]
  exact hK _ _ (k _ _ _ (ha.put (G := true) hlt) (hw.alloc ob))
theorem W.al {z : Value} {cs : List Value} [TZero P T z] (hz : z.cells = cs.toArray) (hn : Nat.blt d n = true)
    (k : ∀ b, WL P n w0 L0 all rest ((d, true, .pointer (some ⟨b, 0, none⟩)) :: E) ((b, .cells cs.toArray T (0, 0)) :: L) Q) : WL P n w0 L0 all (⟨some d, .alloc T, ty, pos, aft, none⟩ :: rest) E L Q :=
  W.new (v := fun b => .pointer (some ⟨b, 0, none⟩)) rfl rfl hn (fun a w _ _ => by rw [r_alloc (TZero.run (T := T) w), hz]) k
theorem W.bx {v : Value} {cs : List Value} (hn : Nat.blt d n = true) (hx : Val true E x v) (hz : v.cells = cs.toArray)
    (k : ∀ b, WL P n w0 L0 all rest ((d, true, .pointer (some ⟨b, 0, none⟩)) :: E) ((b, .cells cs.toArray T (0, 0)) :: L) Q) : WL P n w0 L0 all (⟨some d, .box T x, ty, pos, aft, none⟩ :: rest) E L Q :=
  W.new (v := fun b => .pointer (some ⟨b, 0, none⟩)) rfl rfl hn (fun a w ha _ => by rw [r_box, hx.eval rfl ha, hz]) k

theorem cell_of (w : World) (b o : Nat) (cs : List Value) (U : TypeId) (fz : Nat × Nat) (h : w.heap[b]? = some (.cells cs.toArray U fz)) : w.cell? ⟨b, o, none⟩ = cs[o]? := by
  rw [cell_of_row w b o _ U fz h]; simp
theorem Addr.add_at (b o i : Nat) : (⟨b, o, none⟩ : Addr).add i = ⟨b, o + i, none⟩ := by unfold Addr.add; split <;> simp_all
theorem run_load_sub {w : World} {b o m : Nat} {cs vs : List Value} (h : w.heap[b]? = some (.cells cs.toArray U fz)) [hs : Sub cs o m vs] [ht : TAgg P T m] : (loadVar T ⟨b, o, none⟩).run P w = .ok (.agg vs.toArray) w := by
  have hl : vs.length = m := by rw [← hs.h.1]; have := hs.h.2; simp; omega
  have hc : (loadCells ⟨b, o, none⟩ vs.length).run P w = .ok vs.toArray w := run_loadCells_list w _ vs (fun j v hv => by
    rw [Addr.add_at, cell_of w b _ cs U fz h]
    rw [← hs.h.1, List.getElem?_take] at hv
    split at hv
    · simpa using hv
    · simp at hv)
  rw [hl] at hc
  have := TAgg.size (P := P) (T := T) (m := m)
  simp [loadVar, Sem.run_bind, TAgg.run (T := T) w, TSize.run (T := T) w, hc]
theorem run_load_one {w : World} {b o : Nat} {v : Value} {cs : List Value} (h : w.heap[b]? = some (.cells cs.toArray U fz)) (hv : cs[o]? = some v) [ht : TScal P T] : (loadVar T ⟨b, o, none⟩).run P w = .ok v w := by
  simp [loadVar, Sem.run_bind, TScal.run (T := T) w, cell_of w b o cs U fz h, hv]
theorem O.ld {b o : Nat} {v : Value} {cs : List Value} [TScal P T] (hp : Pre n all E g d G := by exact ⟨rfl, rfl⟩) (hx : Val G E x (.pointer (some ⟨b, o, none⟩)) := by first | exact vt rfl | exact vs rfl | exact vi rfl and1 | exact vi rfl (fun h => and1 (and1 h)) | exact vi rfl (by simp +contextual)) [hb : Blk L b (.cells cs.toArray U fz)] [hv : Nth cs o v] : QV P n w0 L0 all ⟨some d, .load T x, ty, pos, aft, g⟩ E L d G (v) :=
  O.val rfl hp (fun hG a w ha hw => by
    have := run_load_one (P := P) (T := T) (hw.has _ hb.h) hv.h
    simp [execOp, Instr.loadAt, Instr.sureAddr, hx.eval hG ha, Sem.run_bind, this])
theorem O.lds {b o m : Nat} {cs vs : List Value} [TAgg P T m] (hp : Pre n all E g d G := by exact ⟨rfl, rfl⟩) (hx : Val G E x (.pointer (some ⟨b, o, none⟩)) := by first | exact vt rfl | exact vs rfl | exact vi rfl and1 | exact vi rfl (fun h => and1 (and1 h)) | exact vi rfl (by simp +contextual)) [hb : Blk L b (.cells cs.toArray U fz)] [hv : Sub cs o m vs] : QV P n w0 L0 all ⟨some d, .load T x, ty, pos, aft, g⟩ E L d G (.agg vs.toArray) :=
  O.val rfl hp (fun hG a w ha hw => by
    have := run_load_sub (P := P) (T := T) (m := m) (o := o) (hw.has _ hb.h) (vs := vs)
    simp [execOp, Instr.loadAt, Instr.sureAddr, hx.eval hG ha, Sem.run_bind, this])
theorem run_store_ovr {w : World} {b o : Nat} {u : Value} {cs vs cs' : List Value} (h : w.heap[b]? = some (.cells cs.toArray U (0, 0))) [hs : Ovr cs o vs cs'] (hu : u.cells = vs.toArray) [h1 : One vs] [ht : TSize P T vs.length] :
    (storeVar T ⟨b, o, none⟩ u).run P w = .ok () (w.setRow b cs'.toArray) := by
  have := run_storeCells_at (P := P) b o U vs 0 cs.toArray w h (by have := hs.h.2; simpa using this) h1.h
  simp only [Nat.add_zero] at this
  simp [storeVar, hu, Sem.run_bind, TSize.run (T := T) w, this, hs.h.1]
theorem W.skp {o : Oper} {L' : Heap} {w' : World → World} (hd : o.dst = none) (hg : o.guard = none)
    (hr : ∀ a w, EnvOk n E a → Upd w0 L0 w L → (execOp a.eval o).run P w = .ok .skip (w' w) ∧ Upd w0 L0 (w' w) L')
    (k : WL P n w0 L0 all rest E L' Q) : WL P n w0 L0 all (o :: rest) E L Q := by
  intro a w ha hw
  refine wpList_plain hg fun K hK => ?_
  obtain ⟨h1, h2⟩ := hr a w ha hw
  simp only [Oper.wp, h1, Oper.upon, hd, Act.put]
  exact hK _ _ (k _ _ ha h2)
theorem W.st {b o : Nat} {u : Value} {cs vs cs' : List Value} {L' : Heap} (hx : Val true E x (.pointer (some ⟨b, o, none⟩))) (hy : Val true E y u) (hu : u.cells = vs.toArray) [hb : Blk L b (.cells cs.toArray U (0, 0))] [hs : Ovr cs o vs cs'] [h1 : One vs] [ht : TSize P T vs.length]
    [hr : Rep L b (.cells cs.toArray U (0, 0)) (.cells cs'.toArray U (0, 0)) L']
    (k : WL P n w0 L0 all rest E L' Q) : WL P n w0 L0 all (⟨none, .store T x y, ty, pos, aft, none⟩ :: rest) E L Q :=
  W.skp (w' := fun w => w.setRow b cs'.toArray) rfl rfl (fun a w ha hw => by
    have := run_store_ovr (P := P) (T := T) (hw.has _ hb.h) (vs := vs) (cs' := cs') (o := o) hu
    refine ⟨by simp [execOp, Instr.storeAt, Instr.sureAddr, hx.eval rfl ha, hy.eval rfl ha, Sem.run_bind, this], hw.setRow hr⟩) k
end
/-! ## structs that are built -/
theorem fold_set (off : Nat) : ∀ (vs : List Value) (k : Nat) (cs : Array Value), off + k + vs.length ≤ cs.size →
    ((vs.zipIdx k).foldl (fun cs (x : Value × Nat) => cs.setIfInBounds (off + x.2) x.1) cs).toList = cs.toList.take (off + k) ++ vs ++ cs.toList.drop (off + k + vs.length)
  | [], k, cs, _ => by simp
  | v :: vs, k, cs, h => by
    simp only [List.length_cons] at h
    rw [List.zipIdx_cons, List.foldl_cons, fold_set off vs (k + 1) _ (by simp; omega)]
    simp only [Array.toList_setIfInBounds, List.length_cons]
    have h1 : off + k < cs.toList.length := by simp; omega
    rw [List.take_set, List.drop_set]
    have e : off + (k + 1) = off + k + 1 := by omega
    rw [e, List.take_succ_eq_append_getElem h1, List.set_append_right _ _ (by simp; omega)]
    simp [Nat.min_eq_left (Nat.le_of_lt h1)]
    have : ¬ (off + k + (vs.length + 1) ≤ off + k) := by omega
    rw [Nat.min_eq_left (by omega)]
    simp [show off + k + 1 + vs.length = off + k + (vs.length + 1) by omega]

class CellsOf (v : Value) (vs : outParam (List Value)) : Prop where h : v.cells = vs.toArray
instance CellsOf.agg {vs : List Value} : CellsOf (.agg vs.toArray) vs := ⟨rfl⟩
instance CellsOf.int {k : IntKind} {a : Int} : CellsOf (.int k a) [.int k a] := ⟨rfl⟩
instance CellsOf.bool {a : Bool} : CellsOf (.bool a) [.bool a] := ⟨rfl⟩
instance CellsOf.str {a : ByteArray} : CellsOf (.string a) [.string a] := ⟨rfl⟩
instance CellsOf.slice {a : Option Addr} {n c : Nat} : CellsOf (.slice a n c) [.slice a n c] := ⟨rfl⟩
class NthP (l : List (Nat × Nat)) (i : Nat) (o m : outParam Nat) : Prop where h : l[i]? = some (o, m)
instance NthP.zero {l : List (Nat × Nat)} {o m : Nat} : NthP ((o, m) :: l) 0 o m := ⟨rfl⟩
instance NthP.succ {l : List (Nat × Nat)} {i o m : Nat} {u : Nat × Nat} [h : NthP l i o m] : NthP (u :: l) (i + 1) o m := ⟨by simpa using h.h⟩
class LenIs (l : List Value) (m : Nat) : Prop where h : l.length = m
instance LenIs.nil : LenIs [] 0 := ⟨rfl⟩
instance LenIs.cons {v : Value} {l : List Value} {m : Nat} [h : LenIs l m] : LenIs (v :: l) (m + 1) := ⟨by simp [h.h]⟩
/-- parts written into places -/
class Bld (lay : List (Nat × Nat)) (zs : List Value) (ps : List (Nat × Value)) (cs : outParam (List Value)) : Prop where
  h : Instr.fill (lay.toArray[·]?) zs.toArray ps = some cs.toArray
instance Bld.nil {lay : List (Nat × Nat)} {zs : List Value} : Bld lay zs [] zs := ⟨rfl⟩
instance Bld.cons {lay : List (Nat × Nat)} {zs zs' cs vs : List Value} {ps : List (Nat × Value)} {i o m : Nat} {v : Value} [h1 : NthP lay i o m] [h2 : CellsOf v vs] [h3 : Ovr zs o vs zs'] [hm : LenIs vs m] [h4 : Bld lay zs' ps cs] : Bld lay zs ((i, v) :: ps) cs := ⟨by
  have e : (vs.toArray.zipIdx.foldl (fun (cs : Array Value) (x : Value × Nat) => cs.setIfInBounds (o + x.2) x.1) zs.toArray) = zs'.toArray := by
    apply Array.ext'
    have := fold_set o vs 0 zs.toArray (by have := h3.h.2; simpa using this)
    rw [← Array.foldl_toList]
    simp only [Array.toList_zipIdx, List.toList_toArray] at this ⊢
    rw [this, h3.h.1]; simp
  unfold Instr.fill
  simp only [List.getElem?_toArray, h1.h]
  rw [if_neg (by rw [h2.h]; have := h3.h.2; have := hm.h; simp; omega), h2.h]
  rw [e]
  simpa using h4.h⟩
/-- a struct's or an array's places, and its zero's cells -/
def layOf (P : Program) (T : TypeId) : Option (List (Nat × Nat) × List Value) :=
  match P.info? T, P.underlying T with
  | some it, some (.array m e) => match it.zero, P.info? e with
    | some z, some ie => some ((List.range m).map fun i => (i * ie.size, ie.size), z.cells.toList)
    | _, _ => none
  | some it, some (.struct fields) => match it.zero, fields.toList.mapM (fun f => (P.info? f.type).map fun i => (f.offset, i.size)) with
    | some z, some places => some (places, z.cells.toList)
    | _, _ => none
  | _, _ => none
class TLay (P : Program) (T : TypeId) (lay : outParam (List (Nat × Nat))) (zs : outParam (List Value)) : Prop where
  h : layOf P T = some (lay, zs)
theorem fill_more {p q : Nat → Option (Nat × Nat)} (h : ∀ i x, p i = some x → q i = some x) : ∀ (ps : List (Nat × Value)) (cs r : Array Value), Instr.fill p cs ps = some r → Instr.fill q cs ps = some r
  | [], cs, r, hr => hr
  | (i, v) :: ps, cs, r, hr => by
    unfold Instr.fill at hr ⊢
    cases hp : p i with
    | none => simp [hp] at hr
    | some x =>
      rw [hp] at hr
      rw [h i x hp]
      simp only at hr ⊢
      split at hr
      · simp at hr
      · rename_i hc; rw [if_neg hc]; exact fill_more h ps _ r hr
theorem TLay.built {P : Program} {T : TypeId} {lay : List (Nat × Nat)} {zs : List Value} [h : TLay P T lay zs] {ps : List (Nat × Value)} {cs : Array Value} (hf : Instr.fill (lay.toArray[·]?) zs.toArray ps = some cs) : P.built T ps = some cs := by
  have h := h.h
  unfold layOf at h
  unfold Program.built
  cases hi : P.info? T with
  | none => simp [hi] at h
  | some it =>
    cases hu : P.underlying T with
    | none => simp [hi, hu] at h
    | some dd =>
      cases dd with
      | array m e =>
        simp only [hi, hu] at h ⊢
        cases hz : it.zero with
        | none => simp [hz] at h
        | some z =>
          cases he : P.info? e with
          | none => simp [hz, he] at h
          | some ie =>
            simp only [hz, he, Option.some.injEq, Prod.mk.injEq] at h ⊢
            obtain ⟨rfl, rfl⟩ := h
            refine fill_more ?_ ps _ cs hf
            intro i x hx
            simp only [List.getElem?_toArray, List.getElem?_map] at hx
            cases hr : (List.range m)[i]? with
            | none => simp [hr] at hx
            | some j =>
              simp [hr] at hx
              obtain ⟨hlt, hj⟩ := List.getElem?_eq_some_iff.1 hr
              simp at hj
              subst hj; simp [hx]
      | struct fields =>
        simp only [hi, hu] at h ⊢
        cases hz : it.zero with
        | none => simp [hz] at h
        | some z =>
          cases he : fields.toList.mapM (fun f => (P.info? f.type).map fun i => (f.offset, i.size)) with
          | none => simp [hz, he] at h
          | some places =>
            simp only [hz, he, Option.some.injEq, Prod.mk.injEq] at h ⊢
            obtain ⟨rfl, rfl⟩ := h
            simpa using hf
      | _ => simp [hi, hu] at h
/-- the values of the parts -/
def PV (G : Bool) (E : Env) : List (Nat × Operand) → List (Nat × Value) → Prop
  | [], ps => ps = []
  | (i, x) :: xs, ps => ∃ v r, ps = (i, v) :: r ∧ Val G E x v ∧ PV G E xs r
theorem PV.nil {G : Bool} {E : Env} : PV G E [] [] := rfl
theorem PV.cons {G : Bool} {E : Env} {i : Nat} {x : Operand} {v : Value} {xs : List (Nat × Operand)} {ps : List (Nat × Value)} (h : Val G E x v) (k : PV G E xs ps) : PV G E ((i, x) :: xs) ((i, v) :: ps) := ⟨v, ps, rfl, h, k⟩
theorem PV.eval {n : Nat} {G : Bool} {E : Env} {a : Act} (ha : EnvOk n E a) (hG : G = true) : ∀ {xs : List (Nat × Operand)} {ps : List (Nat × Value)}, PV G E xs ps → (xs.map fun (x : Nat × Operand) => (x.1, a.eval x.2)) = ps
  | [], _, h => by cases h; rfl
  | (i, x) :: xs, _, ⟨v, r, e, hv, k⟩ => by subst e; simp [hv.eval hG ha, PV.eval ha hG k]
def AV (G : Bool) (E : Env) : List Operand → List Value → Prop
  | [], vs => vs = []
  | x :: xs, vs => ∃ v r, vs = v :: r ∧ Val G E x v ∧ AV G E xs r
theorem AV.nil {G : Bool} {E : Env} : AV G E [] [] := rfl
theorem AV.cons {G : Bool} {E : Env} {x : Operand} {v : Value} {xs : List Operand} {vs : List Value} (h : Val G E x v) (k : AV G E xs vs) : AV G E (x :: xs) (v :: vs) := ⟨v, vs, rfl, h, k⟩
theorem AV.eval {n : Nat} {G : Bool} {E : Env} {a : Act} (ha : EnvOk n E a) (hG : G = true) : ∀ {xs : List Operand} {vs : List Value}, AV G E xs vs → xs.map a.eval = vs
  | [], _, h => by cases h; rfl
  | x :: xs, _, ⟨v, r, e, hv, k⟩ => by subst e; simp [hv.eval hG ha, AV.eval ha hG k]

/-! ## calls -/
/-- a call from a world in which the heaplet 'Lf' lies: it returns; of the other blocks that were there none has turned -/
def Fn (P : Program) (f : FuncId) (args : List Value) (w : World) (Lf : Heap) (R : Value → Heap → Prop) : Prop :=
  Calls P f args.toArray w fun e w' => ∃ v L', e = .returned v ∧ R v L' ∧ Upd w Lf w' L'
theorem Upd.trans {w0 w w' : World} {L0 L Lf L' F : Heap} (h : Upd w0 L0 w L) (hp : L.Perm (Lf ++ F)) (h' : Upd w Lf w' L') : Upd w0 L0 w' (L' ++ F) := by
  have h := h.perm hp.symm
  have hnd := h.nd
  rw [List.map_append, List.nodup_append] at hnd
  refine ⟨h'.os.trans h.os, h'.tape.trans h.tape, h'.output.trans h.output, Nat.le_trans h.size h'.size, ?_, ?_, ?_, ?_⟩
  · intro k hk hn
    rw [h'.old k (Nat.lt_of_lt_of_le hk h.size) (fun hm => ?_)]
    · exact h.old k hk hn
    · obtain ⟨p, hp, e⟩ := List.mem_map.1 hm
      rcases h.own p (by simp [hp]) with ho | ho
      · exact hn (e ▸ ho)
      · omega
  · intro p hp
    rcases List.mem_append.1 hp with hp | hp
    · exact h'.has p hp
    · have hm : p ∈ Lf ++ F := by simp [hp]
      rw [h'.old p.1 (h.lt hm) (fun hc => hnd.2.2 p.1 hc p.1 (List.mem_map_of_mem hp) rfl)]
      exact h.has p hm
  · intro p hp
    rcases List.mem_append.1 hp with hp | hp
    · rcases h'.own p hp with ho | ho
      · obtain ⟨q, hq, e⟩ := List.mem_map.1 ho
        rcases h.own q (by simp [hq]) with ho' | ho'
        · exact .inl (e ▸ ho')
        · exact .inr (e ▸ ho')
      · exact .inr (Nat.le_trans h.size ho)
    · exact h.own p (by simp [hp])
  · rw [List.map_append, List.nodup_append]
    refine ⟨h'.nd, hnd.2.1, ?_⟩
    intro a ha b hb e
    subst e
    obtain ⟨p, hp, rfl⟩ := List.mem_map.1 ha
    obtain ⟨q, hq, e⟩ := List.mem_map.1 hb
    rcases h'.own p hp with ho | ho
    · exact hnd.2.2 p.1 ho q.1 (List.mem_map_of_mem hq) e.symm
    · have := h.lt (show q ∈ Lf ++ F by simp [hq])
      omega

section
variable {P : Program} {n : Nat} {w0 : World} {L0 : Heap} {all rest : List Oper} {E : Env} {L : Heap} {Q : Post}
variable {d : Nat} {x y z : Operand} {T T' U ty : TypeId} {pos : String} {aft : Array Edge} {g : Option (Nat × Bool)} {G : Bool} {fz : Nat × Nat}
theorem O.bd {xs : List (Nat × Operand)} {ps : List (Nat × Value)} {lay : List (Nat × Nat)} {zs cs : List Value} [ht : TLay P T lay zs] (hp : Pre n all E g d G := by exact ⟨rfl, rfl⟩) (hv : PV G E xs ps := by (repeat (refine PV.cons (by first | exact vt rfl | exact vs rfl | exact vi rfl and1 | exact vi rfl (fun h => and1 (and1 h)) | exact vi rfl (by simp +contextual)) ?_)); exact PV.nil) [hb : Bld lay zs ps cs] : QV P n w0 L0 all ⟨some d, .build T xs.toArray, ty, pos, aft, g⟩ E L d G (.agg cs.toArray) :=
  O.val rfl hp (fun hG a w ha hw => by
    have h := run_build (P := P) w T ps.toArray cs.toArray (ht.built hb.h)
    have e : (xs.toArray.map fun (x : Nat × Operand) => (x.1, a.eval x.2)) = ps.toArray := by rw [List.map_toArray, hv.eval ha hG]
    simp only [execOp, e]
    simp [Sem.run_bind, h])
theorem O.mf {fn : Go.Fn} {xs ys : List Operand} {us vs : List Value} (hp : Pre n all E g d G := by exact ⟨rfl, rfl⟩) (hx : AV G E xs us := by (repeat (refine AV.cons (by first | exact vt rfl | exact vs rfl | exact vi rfl and1 | exact vi rfl (fun h => and1 (and1 h)) | exact vi rfl (by simp +contextual)) ?_)); exact AV.nil) (hy : AV G E ys vs := by (repeat (refine AV.cons (by first | exact vt rfl | exact vs rfl | exact vi rfl and1 | exact vi rfl (fun h => and1 (and1 h)) | exact vi rfl (by simp +contextual)) ?_)); exact AV.nil) : QV P n w0 L0 all ⟨some d, .makeFunc fn xs.toArray ys.toArray, ty, pos, aft, g⟩ E L d G (.func fn us.toArray vs.toArray) :=
  O.val rfl hp (fun hG a w ha hw => by rw [r_makeF, List.map_toArray, List.map_toArray, hx.eval ha hG, hy.eval ha hG])
/-- a function that has a body -/
def bodyB (P : Program) (f : FuncId) : Bool := match P.funcs[f]? with | some fn => !(fn.name == "runtime.NumGoroutine") && fn.body.isSome | none => false
class TBody (P : Program) (f : FuncId) : Prop where b : bodyB P f = true
theorem TBody.h {P : Program} {f : FuncId} [t : TBody P f] : ∃ fn, P.funcs[f]? = some fn ∧ ¬ fn.name = "runtime.NumGoroutine" ∧ ¬ fn.body = none := by
  have := t.b
  unfold bodyB at this
  cases h : P.funcs[f]? with
  | none => simp [h] at this
  | some fn =>
    simp only [h, Bool.and_eq_true, Bool.not_eq_true', beq_eq_false_iff_ne] at this
    exact ⟨fn, rfl, this.1, fun e => by simp [e] at this⟩
theorem Upd.part {w0 w : World} {L0 L Lf F : Heap} (h : Upd w0 L0 w L) (hp : L.Perm (Lf ++ F)) : Holds Lf w := by
  have h := (h.perm hp.symm)
  refine ⟨fun p hp => h.has p (by simp [hp]), ?_⟩
  have := h.nd
  rw [List.map_append, List.nodup_append] at this
  exact this.1
/-- a call: of the heap the heaplet 'Lf' is the callee's, the rest 'F' stays -/
theorem W.call {d : Nat} {f : FuncId} {xs : List Operand} {us first cap : List Value} {Ts : Array TypeId} {R : Value → Heap → Prop} [ht : TBody P f] (Lf F : Heap)
    (hn : Nat.blt d n = true) (hx : Val true E x (.func (.func f) first.toArray cap.toArray)) (hv : AV true E xs us) (hp : L.Perm (Lf ++ F))
    (hc : ∀ w, Upd w0 L0 w L → Holds Lf w → Fn P f (first ++ us ++ cap) w Lf R)
    (k : ∀ v L', R v L' → WL P n w0 L0 all rest ((d, true, v) :: E) (L' ++ F) Q) : WL P n w0 L0 all (⟨some d, .call ⟨.value x, xs.toArray, Ts⟩, ty, pos, aft, none⟩ :: rest) E L Q := by
  intro a w ha hw
  obtain ⟨fn, h1, h2, h3⟩ := TBody.h (P := P) (f := f)
  refine wpList_plain rfl fun K hK => ?_
  have hr := r_call (P := P) (ρ := a.eval) (d := some d) (x := x) (ty := ty) (pos := pos) (aft := aft) (g := none) (w := w) (args := xs.toArray) (Ts := Ts) (hx.eval rfl ha) h1 h2 h3
  rw [List.map_toArray, hv.eval ha rfl] at hr
  simp only [Oper.wp, hr, Oper.upon]
  have := hc w hw (hw.part hp)
  unfold Fn at this
  simp only [List.append_toArray]
  refine Calls.mono this ?_
  rintro e w' ⟨v, L', rfl, hR, hu⟩
  exact hK _ _ (k v L' hR _ _ (ha.put (G := true) (by simpa using hn)) (hw.trans hp hu))
theorem O.call {f : FuncId} {xs : List Operand} {us : List Value} {Ts : Array TypeId} {v : Value} [ht : TBody P f] (hp : Pre n all E g d G) (hv : AV G E xs us)
    (hc : G = true → ∀ w, Upd w0 L0 w L → Fn P f us w [] fun v' L' => v' = v ∧ L' = []) : Quiet P n w0 L0 all ⟨some d, .call ⟨.value (.func f), xs.toArray, Ts⟩, ty, pos, aft, g⟩ E L d G v :=
  ⟨rfl, hp, fun hG a w L2 hs ha hw K Q hK => by
    obtain ⟨fn, h1, h2, h3⟩ := TBody.h (P := P) (f := f)
    have hr := r_call (P := P) (ρ := a.eval) (d := some d) (x := .func f) (ty := ty) (pos := pos) (aft := aft) (g := g) (w := w) (args := xs.toArray) (Ts := Ts) (first := #[]) (cap := #[]) rfl h1 h2 h3
    rw [List.map_toArray, hv.eval ha hG] at hr
    simp only [Oper.wp, hr, Oper.upon]
    have := hc hG w (hw.sub hs)
    unfold Fn at this
    simp only [Array.empty_append, Array.append_empty]
    refine Calls.mono this ?_
    rintro e w' ⟨v', L', rfl, ⟨rfl, rfl⟩, hu⟩
    exact hK _ (hw.trans (Lf := []) (F := L2) (by simp) hu)⟩

/-! ## a function's body -/
def argE : Nat → List Value → Env
  | _, [] => []
  | i, v :: r => (i, true, v) :: argE (i + 1) r
theorem argE_lk : ∀ (vs : List Value) (i t : Nat) (g : Bool) (v : Value), lk (argE i vs) t = some (g, v) → g = true ∧ i ≤ t ∧ vs[t - i]? = some v
  | [], _, _, _, _, h => by simp [argE, lk] at h
  | u :: r, i, t, g, v, h => by
    simp only [argE, lk] at h
    cases hb : Nat.beq i t with
    | true =>
      rw [hb] at h
      simp only [cond_true, Option.some.injEq, Prod.mk.injEq] at h
      have := Nat.eq_of_beq_eq_true hb
      subst this
      exact ⟨h.1.symm, Nat.le_refl _, by simp [h.2]⟩
    | false =>
      rw [hb] at h
      obtain ⟨h1, h2, h3⟩ := argE_lk r (i + 1) t g v h
      refine ⟨h1, by omega, ?_⟩
      rw [show t - i = (t - (i + 1)) + 1 by omega]; simpa using h3
theorem argE_ok {n : Nat} {vs : List Value} (h : vs.length ≤ n) : EnvOk n (argE 0 vs) { tmps := vs.toArray ++ Array.replicate (n - vs.toArray.size) undef, defers := [] } := by
  refine ⟨by simp; omega, rfl, ?_⟩
  intro t g v hl
  obtain ⟨rfl, _, h3⟩ := argE_lk vs 0 t g v hl
  simp only [Nat.sub_zero] at h3
  have hlt : t < vs.length := (List.getElem?_eq_some_iff.1 h3).1
  simp only [Array.getD_eq_getD_getElem?, Array.getElem?_append, List.size_toArray, hlt, if_true, List.getElem?_toArray, h3, Option.getD_some, cond_true]

/-- a result -/
def RV (P : Program) (E : Env) (L : Heap) : ResultVar → Value → Prop
  | .tmp t, v => lk E t = some (true, v)
  | .cell t T, v => ∃ b, lk E t = some (true, .pointer (some ⟨b, 0, none⟩)) ∧ ∀ w : World, (∀ p ∈ L, w.heap[p.1]? = some p.2) → (loadVar T ⟨b, 0, none⟩).run P w = .ok v w
def RVs (P : Program) (E : Env) (L : Heap) : List ResultVar → List Value → Prop
  | [], vs => vs = []
  | r :: rs, vs => ∃ v us, vs = v :: us ∧ RV P E L r v ∧ RVs P E L rs us
theorem RVs.nil : RVs P E L [] [] := rfl
theorem RVs.tmp {t : Nat} {v : Value} {rs : List ResultVar} {vs : List Value} (h : lk E t = some (true, v)) (k : RVs P E L rs vs) : RVs P E L (.tmp t :: rs) (v :: vs) := ⟨v, vs, rfl, h, k⟩
theorem RVs.cell {t b m : Nat} {cs vs' : List Value} {rs : List ResultVar} {vs : List Value} [TAgg P T m] (h : lk E t = some (true, .pointer (some ⟨b, 0, none⟩))) [hb : Blk L b (.cells cs.toArray U fz)] [hv : Sub cs 0 m vs'] (k : RVs P E L rs vs) : RVs P E L (.cell t T :: rs) (.agg vs'.toArray :: vs) :=
  ⟨_, vs, rfl, ⟨b, h, fun w hw => run_load_sub (P := P) (T := T) (m := m) (o := 0) (hw _ hb.h) (vs := vs')⟩, k⟩
def oneOr : List Value → Value
  | [v] => v
  | vs => .tuple vs.toArray
def rvS (tmps : Array Value) : ResultVar → Sem Value
  | .tmp t => pure (tmps.getD t undef)
  | .cell q t => do loadVar t (← asAddr (tmps.getD q undef))
theorem run_results {fn : Func} {rs : List ResultVar} {vs : List Value} {a : Act} {w : World} (hf : fn.results = rs.toArray) (h : RVs P E L rs vs) (ha : EnvOk n E a) (hw : ∀ p ∈ L, w.heap[p.1]? = some p.2) :
    (results fn a.tmps).run P w = .ok (oneOr vs) w := by
  have key : ∀ (rs : List ResultVar) (vs : List Value), RVs P E L rs vs → (rs.mapM (rvS a.tmps)).run P w = .ok vs w := by
    intro rs
    induction rs with
    | nil => intro vs h; cases h; simp
    | cons r rs ih =>
      rintro vs ⟨v, us, rfl, hr, hk⟩
      rw [List.mapM_cons, Sem.run_bind]
      have h1 : (rvS a.tmps r).run P w = .ok v w := by
        cases r with
        | tmp t => have := ha.val t true v hr; simp only [cond_true] at this; simp only [rvS, this, Sem.run_pure]
        | cell q t =>
          obtain ⟨b, hb, hl⟩ := hr
          have := ha.val q true _ hb
          simp only [cond_true] at this
          simp only [rvS, this, asAddr, Sem.run_bind, Sem.run_pure, Result.andThen_ok]
          exact hl w hw
      rw [h1]
      simp only [Result.andThen_ok, Sem.run_bind, ih us hk, Sem.run_pure]
  have := key rs vs h
  have e : results fn a.tmps = (do let vs ← fn.results.mapM (rvS a.tmps); pure (if h : vs.size = 1 then vs[0] else .tuple vs)) := rfl
  rw [e, hf, Sem.run_bind, List.mapM_toArray, Sem.run_map, this]
  simp only [Result.andThen_ok, Sem.run_pure, List.size_toArray]
  cases vs with
  | nil => rfl
  | cons v r => cases r <;> rfl

/-- what stands at a body's end -/
def retQ (P : Program) (rs : List ResultVar) (R : Value → Heap → Prop) : Post
  | .ret, E, L | .normal, E, L => ∃ vs L', RVs P E L rs vs ∧ L'.Sublist L ∧ R (oneOr vs) L'
  | _, _, _ => False
theorem Fn.enter {f : FuncId} {fn : Func} {c : Code} {args : List Value} {rs : List ResultVar} {w : World} {Lf : Heap} {R : Value → Heap → Prop} (hf : P.funcs[f]? = some fn) (hb : fn.body = some c) (hr : fn.results = rs.toArray) (hn : fn.ntmps = n) (hl : Nat.ble args.length n = true) (hL : Holds Lf w)
    (h : CW P n w Lf c (argE 0 args) Lf (retQ P rs R)) : Fn P f args w Lf R := by
  refine calls_of_wp hf hb ?_
  rw [hn]
  refine Code.wp_mono ?_ (h _ w (argE_ok (by simpa using hl)) (Upd.refl hL))
  rintro e a w' ⟨E', L', hq, ha, hw⟩
  cases e with
  | normal => obtain ⟨vs, L'', h1, h2, h3⟩ := hq; exact ⟨ha.defers, _, run_results hr h1 ha hw.has, _, _, rfl, h3, hw.sub h2⟩
  | ret => obtain ⟨vs, L'', h1, h2, h3⟩ := hq; exact ⟨ha.defers, _, run_results hr h1 ha hw.has, _, _, rfl, h3, hw.sub h2⟩
  | exit _ => exact hq.elim
  | goto _ => exact hq.elim
  | panic _ => exact hq.elim
  | outgrown => exact hq.elim
end
section
variable {P : Program} {n : Nat} {w0 : World} {L0 : Heap} {all rest : List Oper} {E : Env} {L : Heap} {Q : Post} {K : Env → Heap → Prop} {i j : Nat}
theorem Q.tn (h : K E L) : thenQ K Q .normal E L := h
theorem Q.tr (h : Q .ret E L) : thenQ K Q .ret E L := h
theorem Q.te (h : Q (.exit i) E L) : thenQ K Q (.exit i) E L := h
theorem Q.bn (h : Q .normal E L) : blockQ i Q .normal E L := h
theorem Q.br (h : Q .ret E L) : blockQ i Q .ret E L := h
theorem Q.bx (h : Q .normal E L) : blockQ i Q (.exit i) E L := by simpa [blockQ] using h
theorem Q.bo (hij : (Nat.beq i j) = false) (h : Q (.exit i) E L) : blockQ j Q (.exit i) E L := by
  have : i ≠ j := Nat.ne_of_beq_eq_false hij
  simpa [blockQ, this] using h
variable {d : Nat} {x y : Operand} {T T' ty : TypeId} {pos : String} {aft : Array Edge} {g : Option (Nat × Bool)} {G : Bool}
theorem wrap_in (p : Int) (h : -9223372036854775808 ≤ p ∧ p ≤ 9223372036854775807) : IntKind.i64.wrap p = p := IntWalk.i64_in p h
/-- a sum, a difference, a product that fits -/
theorem O.addN {p q : Int} (hp : Pre n all E g d G := by exact ⟨rfl, rfl⟩) (hx : Val G E x (.int .i64 p) := by first | exact vt rfl | exact vs rfl | exact vi rfl and1 | exact vi rfl (fun h => and1 (and1 h)) | exact vi rfl (by simp +contextual)) (hy : Val G E y (.int .i64 q) := by first | exact vt rfl | exact vs rfl | exact vi rfl and1 | exact vi rfl (fun h => and1 (and1 h)) | exact vi rfl (by simp +contextual)) (h : G = true → -9223372036854775808 ≤ p + q ∧ p + q ≤ 9223372036854775807 := by (intro _; omega)) : QV P n w0 L0 all ⟨some d, .binOp .add T x y T', ty, pos, aft, g⟩ E L d G (.int .i64 (p + q)) :=
  O.val rfl hp (fun hG a w ha hw => by rw [r_add (hx.eval hG ha) (hy.eval hG ha), wrap_in _ (h hG)])
theorem O.subN {p q : Int} (hp : Pre n all E g d G := by exact ⟨rfl, rfl⟩) (hx : Val G E x (.int .i64 p) := by first | exact vt rfl | exact vs rfl | exact vi rfl and1 | exact vi rfl (fun h => and1 (and1 h)) | exact vi rfl (by simp +contextual)) (hy : Val G E y (.int .i64 q) := by first | exact vt rfl | exact vs rfl | exact vi rfl and1 | exact vi rfl (fun h => and1 (and1 h)) | exact vi rfl (by simp +contextual)) (h : G = true → -9223372036854775808 ≤ p - q ∧ p - q ≤ 9223372036854775807 := by (intro _; omega)) : QV P n w0 L0 all ⟨some d, .binOp .sub T x y T', ty, pos, aft, g⟩ E L d G (.int .i64 (p - q)) :=
  O.val rfl hp (fun hG a w ha hw => by rw [r_sub (hx.eval hG ha) (hy.eval hG ha), wrap_in _ (h hG)])
theorem O.mulN {p q : Int} (hp : Pre n all E g d G := by exact ⟨rfl, rfl⟩) (hx : Val G E x (.int .i64 p) := by first | exact vt rfl | exact vs rfl | exact vi rfl and1 | exact vi rfl (fun h => and1 (and1 h)) | exact vi rfl (by simp +contextual)) (hy : Val G E y (.int .i64 q) := by first | exact vt rfl | exact vs rfl | exact vi rfl and1 | exact vi rfl (fun h => and1 (and1 h)) | exact vi rfl (by simp +contextual)) (h : G = true → -9223372036854775808 ≤ p * q ∧ p * q ≤ 9223372036854775807 := by (intro _; omega)) : QV P n w0 L0 all ⟨some d, .binOp .mul T x y T', ty, pos, aft, g⟩ E L d G (.int .i64 (p * q)) :=
  O.val rfl hp (fun hG a w ha hw => by rw [r_mul (hx.eval hG ha) (hy.eval hG ha), wrap_in _ (h hG)])
/-- a byte as a number -/
theorem O.cvB {p : UInt8} [TInt P T .u8] [TInt P T' .i64] (hp : Pre n all E g d G := by exact ⟨rfl, rfl⟩) (hx : Val G E x (.int .u8 p.toNat) := by first | exact vt rfl | exact vs rfl | exact vi rfl and1 | exact vi rfl (fun h => and1 (and1 h)) | exact vi rfl (by simp +contextual)) : QV P n w0 L0 all ⟨some d, .convert T T' x, ty, pos, aft, g⟩ E L d G (.int .i64 p.toNat) :=
  O.val rfl hp (fun hG a w ha hw => by rw [r_conv (hx.eval hG ha) TInt.h TInt.h, wrap_in _ (by have := p.toNat_lt; omega)])
end
/-! ## regions that draw their order: all but a tail is quiet -/
abbrev Ent := Nat × Nat × Bool × Value
def isIn (t : Nat) : List Nat → Bool
  | [] => false
  | d :: r => bif Nat.beq t d then true else isIn t r
def drp (ds : List Nat) : Env → Env
  | [] => []
  | (t, g, v) :: r => bif isIn t ds then drp ds r else (t, g, v) :: drp ds r
def dstsOf : List Oper → List Nat
  | [] => []
  | o :: r => match o.dst with | some d => d :: dstsOf r | none => dstsOf r
def waits (j : Nat) : List Edge → Bool
  | [] => false
  | e :: r => bif (Region.binds .any e && Nat.beq e.on j) then true else waits j r
def pickE (af : List Edge) : List Ent → Env
  | [] => []
  | (j, d, g, v) :: r => bif waits j af then (d, g, v) :: pickE af r else pickE af r
def ents : List Ent → Env
  | [] => []
  | (_, d, g, v) :: r => (d, g, v) :: ents r
def WQ (P : Program) (n : Nat) (w0 : World) (L0 : Heap) (all : List Oper) (E : Env) (L : Heap) (K : List Ent → Prop) : Nat → List Oper → List Ent → Prop
  | _, [], es => K es
  | k, o :: rest, es => ∃ d G v, Quiet P n w0 L0 all o (pickE o.after.toList es ++ E) L d G v ∧ WQ P n w0 L0 all E L K (k + 1) rest ((k, d, G, v) :: es)
theorem isIn_iff {t : Nat} {ds : List Nat} : isIn t ds = true ↔ t ∈ ds := by
  induction ds with
  | nil => simp [isIn]
  | cons d r ih =>
    simp only [isIn, List.mem_cons]
    cases hb : Nat.beq t d with
    | true => simp [Nat.eq_of_beq_eq_true hb]
    | false => simp [ih, Nat.ne_of_beq_eq_false hb]
theorem waits_iff {j : Nat} {af : List Edge} : waits j af = true ↔ ∃ e ∈ af, Region.binds .any e = true ∧ e.on = j := by
  induction af with
  | nil => simp [waits]
  | cons e r ih =>
    simp only [waits, List.mem_cons]
    by_cases h : (Region.binds .any e && Nat.beq e.on j) = true
    · rw [h]
      simp only [cond_true, true_iff]
      simp only [Bool.and_eq_true] at h
      exact ⟨e, .inl rfl, h.1, Nat.eq_of_beq_eq_true h.2⟩
    · have hf : (Region.binds .any e && Nat.beq e.on j) = false := by
        cases h' : (Region.binds .any e && Nat.beq e.on j) with
        | true => exact absurd h' h
        | false => rfl
      rw [hf, cond_false, ih]
      constructor
      · rintro ⟨x, hx, h1⟩; exact ⟨x, .inr hx, h1⟩
      · rintro ⟨x, rfl | hx, h1, h2⟩
        · subst h2; simp [h1] at h
        · exact ⟨x, hx, h1, h2⟩
theorem drp_lk {ds : List Nat} {E : Env} {t : Nat} {g : Bool} {v : Value} (h : lk (drp ds E) t = some (g, v)) : t ∉ ds := by
  induction E with
  | nil => simp [drp, lk] at h
  | cons p r ih =>
    obtain ⟨t', g', v'⟩ := p
    simp only [drp] at h
    cases hi : isIn t' ds with
    | true => rw [hi] at h; exact ih h
    | false =>
      rw [hi] at h
      simp only [cond_false, lk] at h
      cases hb : Nat.beq t' t with
      | true => rw [← Nat.eq_of_beq_eq_true hb]; intro hm; rw [isIn_iff.2 hm] at hi; cases hi
      | false => rw [hb] at h; exact ih h
theorem drp_keeps {ds : List Nat} {E : Env} {t : Nat} (hn : t ∉ ds) : lk (drp ds E) t = lk E t := by
  induction E with
  | nil => rfl
  | cons p r ih =>
    obtain ⟨t', g', v'⟩ := p
    simp only [drp, lk]
    cases hi : isIn t' ds with
    | true =>
      have : t' ≠ t := fun e => hn (e ▸ isIn_iff.1 hi)
      have hb : Nat.beq t' t = false := by
        cases h : Nat.beq t' t with
        | true => exact absurd (Nat.eq_of_beq_eq_true h) this
        | false => rfl
      rw [hb]; exact ih
    | false => simp only [cond_false, lk, ih]
theorem EnvOk.drp {n : Nat} {E : Env} {a : Act} {ds : List Nat} (h : EnvOk n E a) : EnvOk n (drp ds E) a :=
  ⟨h.size, h.defers, fun t g v hl => h.val t g v (by rw [← drp_keeps (drp_lk hl)]; exact hl)⟩
theorem lk_append {A B : Env} {t : Nat} {g : Bool} {v : Value} (h : lk (A ++ B) t = some (g, v)) : (∃ p ∈ A, p = (t, g, v)) ∨ lk B t = some (g, v) := by
  induction A with
  | nil => exact .inr h
  | cons p r ih =>
    obtain ⟨t', g', v'⟩ := p
    simp only [List.cons_append, lk] at h
    cases hb : Nat.beq t' t with
    | true =>
      rw [hb] at h
      simp only [cond_true, Option.some.injEq, Prod.mk.injEq] at h
      exact .inl ⟨_, List.mem_cons_self, by rw [Nat.eq_of_beq_eq_true hb, h.1, h.2]⟩
    | false =>
      rw [hb] at h
      rcases ih h with ⟨p, hp, e⟩ | h
      · exact .inl ⟨p, List.mem_cons_of_mem _ hp, e⟩
      · exact .inr h
theorem mem_pickE {af : List Edge} {es : List Ent} {d : Nat} {g : Bool} {v : Value} (h : (d, g, v) ∈ pickE af es) : ∃ j, (j, d, g, v) ∈ es ∧ waits j af = true := by
  induction es with
  | nil => simp [pickE] at h
  | cons x r ih =>
    obtain ⟨j, d', g', v'⟩ := x
    simp only [pickE] at h
    cases hw : waits j af with
    | true =>
      rw [hw] at h
      rcases List.mem_cons.1 h with h | h
      · simp only [Prod.mk.injEq] at h
        obtain ⟨rfl, rfl, rfl⟩ := h
        exact ⟨j, List.mem_cons_self, hw⟩
      · obtain ⟨j', h1, h2⟩ := ih h; exact ⟨j', List.mem_cons_of_mem _ h1, h2⟩
    | false => rw [hw] at h; obtain ⟨j', h1, h2⟩ := ih h; exact ⟨j', List.mem_cons_of_mem _ h1, h2⟩
theorem mem_ents {es : List Ent} {d : Nat} {g : Bool} {v : Value} (h : (d, g, v) ∈ ents es) : ∃ j, (j, d, g, v) ∈ es := by
  induction es with
  | nil => simp [ents] at h
  | cons x r ih =>
    obtain ⟨j, d', g', v'⟩ := x
    simp only [ents] at h
    rcases List.mem_cons.1 h with h | h
    · simp only [Prod.mk.injEq] at h
      obtain ⟨rfl, rfl, rfl⟩ := h
      exact ⟨j, List.mem_cons_self⟩
    · obtain ⟨j', h1⟩ := ih h; exact ⟨j', List.mem_cons_of_mem _ h1⟩

/-- what the lexical walk gives: the entries, one an operation -/
theorem WQ.out {P : Program} {n : Nat} {w0 : World} {L0 : Heap} {all : List Oper} {E : Env} {L : Heap} {K : List Ent → Prop} : ∀ (rest : List Oper) (k : Nat) (es0 : List Ent), WQ P n w0 L0 all E L K k rest es0 →
    (∀ x ∈ es0, x.1 < k) → (es0.map (·.1)).Nodup →
    ∃ es, K es ∧ (∀ x ∈ es0, x ∈ es) ∧ (es.map (·.1)).Nodup ∧ (∀ x ∈ es, x ∈ es0 ∨ ∃ i o, rest[i]? = some o ∧ x.1 = k + i ∧ o.dst = some x.2.1) ∧
      ∀ i o, rest[i]? = some o → ∃ d G v esi, (k + i, d, G, v) ∈ es ∧ (∀ x ∈ esi, x ∈ es) ∧ Quiet P n w0 L0 all o (pickE o.after.toList esi ++ E) L d G v
  | [], k, es0, h, _, hnd => ⟨es0, h, fun _ h => h, hnd, fun x hx => .inl hx, by simp⟩
  | o :: rest, k, es0, ⟨d, G, v, hq, hr⟩, hlt, hnd => by
    obtain ⟨es, h1, h2, h3, h4, h5⟩ := WQ.out rest (k + 1) ((k, d, G, v) :: es0) hr (by
      intro x hx
      rcases List.mem_cons.1 hx with rfl | hx
      · exact Nat.lt_succ_self k
      · have := hlt x hx; omega) (by
      simp only [List.map_cons, List.nodup_cons]
      refine ⟨fun hm => ?_, hnd⟩
      obtain ⟨x, hx, e⟩ := List.mem_map.1 hm
      have := hlt x hx; omega)
    refine ⟨es, h1, fun x hx => h2 x (List.mem_cons_of_mem _ hx), h3, ?_, ?_⟩
    · intro x hx
      rcases h4 x hx with hx | ⟨i, o', hi, e1, e2⟩
      · rcases List.mem_cons.1 hx with rfl | hx
        · exact .inr ⟨0, o, rfl, rfl, hq.1⟩
        · exact .inl hx
      · exact .inr ⟨i + 1, o', by simpa using hi, by omega, e2⟩
    · intro i o' hi
      cases i with
      | zero =>
        simp at hi; subst hi
        exact ⟨d, G, v, es0, h2 _ List.mem_cons_self, fun x hx => h2 x (List.mem_cons_of_mem _ hx), hq⟩
      | succ i =>
        obtain ⟨d', G', v', esi, g1, g2, g3⟩ := h5 i o' (by simpa using hi)
        exact ⟨d', G', v', esi, by rw [show k + (i + 1) = k + 1 + i by omega]; exact g1, g2, g3⟩

def headArr (m N : Nat) : Array Bool := ((List.range N).map fun j => decide (j < m)).toArray
def nodupB : List Nat → Bool
  | [] => true
  | d :: r => !isIn d r && nodupB r
theorem nodupB_iff {l : List Nat} (h : nodupB l = true) : l.Nodup := by
  induction l with
  | nil => exact List.nodup_nil
  | cons d r ih =>
    simp only [nodupB, Bool.and_eq_true, Bool.not_eq_true'] at h
    exact List.nodup_cons.2 ⟨fun hm => by rw [isIn_iff.2 hm] at h; simp at h, ih h.2⟩
/-- the Bool that a region is asked: its first 'm' operations all come ahead of the others, which follow one another -/
def drawB (l : List Oper) (m : Nat) : Bool :=
  decide (m ≤ l.length) && nodupB (dstsOf (l.take m)) &&
  (l.zipIdx.all fun (o, i) => o.after.toList.all fun e => !Region.binds .any e || Nat.blt e.on i) &&
  (decide (m = l.length) || (List.range m).all fun i => (l.take (m + 1)).zipIdx.any fun (o, j) => Nat.blt i j && waits i o.after.toList) &&
  (l.zipIdx.all fun (o, t) => Nat.ble t m || waits (t - 1) o.after.toList) &&
  Region.seqB .any l.toArray (l.length - m) m (headArr m l.length)
structure JS (n : Nat) (w0 : World) (L0 : Heap) (l : List Oper) (m : Nat) (es : List Ent) (Eb : Env) (L : Heap) (s : Array Bool) (a : Act) (w : World) : Prop where
  size : s.size = l.length
  closed : ∀ j o, l[j]? = some o → s.getD j false = true → ∀ e ∈ o.after, Region.binds .any e = true → s.getD e.on false = true
  tail : ∀ t, m ≤ t → s.getD t false = false
  ent : ∀ x ∈ es, s.getD x.1 false = true → a.tmps.getD x.2.1 undef = bif x.2.2.1 then x.2.2.2 else undef
  base : EnvOk n Eb a
  upd : Upd w0 L0 w L
theorem getD_set (s : Array Bool) (i j : Nat) (h : i < s.size) : (s.setIfInBounds i true).getD j false = (decide (i = j) || s.getD j false) := by
  simp only [Array.getD_eq_getD_getElem?, Array.getElem?_setIfInBounds]
  by_cases e : i = j
  · subst e; simp [h]
  · simp [e]
def cnt (s : Array Bool) (N : Nat) : Nat := (List.range N).countP fun j => s.getD j false
theorem cnt_set (s : Array Bool) (i : Nat) (hs : i < s.size) (hi : s.getD i false = false) : ∀ N, cnt (s.setIfInBounds i true) N = cnt s N + (if i < N then 1 else 0)
  | 0 => by simp [cnt]
  | N + 1 => by
    have ih := cnt_set s i hs hi N
    unfold cnt at ih ⊢
    rw [List.range_succ, List.countP_append, List.countP_append, ih]
    simp only [List.countP_singleton, getD_set s i N hs]
    by_cases e : i = N
    · subst e; simp [hi]
    · by_cases h1 : i < N
      · simp [e, h1, Nat.lt_succ_of_lt h1]; omega
      · have h2 : ¬ i < N + 1 := by omega
        simp [e, h1, h2]
theorem cnt_le (s : Array Bool) (N : Nat) : cnt s N ≤ N := by unfold cnt; have := List.countP_le_length (p := fun j => s.getD j false) (l := List.range N); simpa using this
theorem cnt_full (s : Array Bool) : ∀ N, cnt s N = N → ∀ j, j < N → s.getD j false = true
  | 0, _, j, hj => absurd hj (Nat.not_lt_zero j)
  | N + 1, h, j, hj => by
    have hle := cnt_le s N
    have e : cnt s (N + 1) = cnt s N + (if s.getD N false = true then 1 else 0) := by
      unfold cnt; rw [List.range_succ, List.countP_append, List.countP_singleton]
    rw [e] at h
    split at h
    · rename_i hN
      by_cases hjN : j = N
      · subst hjN; exact hN
      · exact cnt_full s N (by omega) j (by omega)
    · omega
theorem cnt_head (s : Array Bool) (m : Nat) (h1 : ∀ j, j < m → s.getD j false = true) (h2 : ∀ t, m ≤ t → s.getD t false = false) : ∀ N, m ≤ N → cnt s N = m
  | 0, h => by have : m = 0 := by omega
               subst this; simp [cnt]
  | N + 1, h => by
    have e : cnt s (N + 1) = cnt s N + (if s.getD N false = true then 1 else 0) := by
      unfold cnt; rw [List.range_succ, List.countP_append, List.countP_singleton]
    by_cases hm : m = N + 1
    · subst hm
      have hall : ∀ k, k ≤ N + 1 → cnt s k = k := by
        intro k
        induction k with
        | zero => intro _; simp [cnt]
        | succ k ih =>
          intro hk
          have e' : cnt s (k + 1) = cnt s k + (if s.getD k false = true then 1 else 0) := by
            unfold cnt; rw [List.range_succ, List.countP_append, List.countP_singleton]
          rw [e', ih (by omega), h1 k (by omega)]; simp
      exact hall (N + 1) (Nat.le_refl _)
    · rw [e, cnt_head s m h1 h2 N (by omega), h2 N (by omega)]; simp

section
variable {P : Program} {n : Nat} {w0 : World} {L0 : Heap} {E : Env} {L : Heap} {Q : Post}
theorem dstsOf_mem {l : List Oper} {i d : Nat} {o : Oper} (h : l[i]? = some o) (hd : o.dst = some d) : d ∈ dstsOf l := by
  induction l generalizing i with
  | nil => simp at h
  | cons x r ih =>
    cases i with
    | zero => simp at h; subst h; simp [dstsOf, hd]
    | succ i =>
      have := ih (by simpa using h)
      simp only [dstsOf]; split
      · exact List.mem_cons_of_mem _ this
      · exact this
theorem dstsOf_inj {l : List Oper} (hn : (dstsOf l).Nodup) : ∀ {i j d : Nat} {o o' : Oper}, l[i]? = some o → l[j]? = some o' → o.dst = some d → o'.dst = some d → i = j := by
  induction l with
  | nil => intro i j d o o' h; simp at h
  | cons x r ih =>
    intro i j d o o' hi hj hd hd'
    cases i with
    | zero =>
      simp at hi; subst hi
      cases j with
      | zero => rfl
      | succ j =>
        simp only [dstsOf, hd, List.nodup_cons] at hn
        exact absurd (dstsOf_mem (by simpa using hj) hd') hn.1
    | succ i =>
      cases j with
      | zero =>
        simp at hj; subst hj
        simp only [dstsOf, hd', List.nodup_cons] at hn
        exact absurd (dstsOf_mem (by simpa using hi) hd) hn.1
      | succ j =>
        have hn' : (dstsOf r).Nodup := by
          simp only [dstsOf] at hn; split at hn
          · exact (List.nodup_cons.1 hn).2
          · exact hn
        exact congrArg (· + 1) (ih hn' (by simpa using hi) (by simpa using hj) hd hd')

theorem CW.draw {id : Nat} {l : List Oper} (m : Nat) (hm : P.follows .mixedOrders = true) (hB : drawB l m = true)
    (h : WQ P n w0 L0 l (drp (dstsOf (l.take m)) E) L (fun es => WL P n w0 L0 l (l.drop m) (ents es ++ drp (dstsOf (l.take m)) E) L Q) 0 (l.take m) []) :
    CW P n w0 L0 (.region id l.toArray true) E L Q := by
  simp only [drawB, Bool.and_eq_true, decide_eq_true_eq] at hB
  obtain ⟨⟨⟨⟨⟨b1, b2⟩, b3⟩, b4⟩, b5⟩, b6⟩ := hB
  have b2 := nodupB_iff b2
  have b3 : ∀ i o, l[i]? = some o → ∀ e ∈ o.after, Region.binds .any e = true → e.on < i := by
    intro i o hi e he hb
    have := List.all_eq_true.1 b3 (o, i) (List.mem_iff_getElem?.2 ⟨i, by simp [List.getElem?_zipIdx, hi]⟩)
    have := List.all_eq_true.1 this e (by simpa using he)
    simpa [hb] using this
  have b4 : m = l.length ∨ ∀ i, i < m → ∃ j o, i < j ∧ j ≤ m ∧ l[j]? = some o ∧ waits i o.after.toList = true := by
    simp only [Bool.or_eq_true, decide_eq_true_eq] at b4
    refine b4.imp (fun h => h) fun hall i hi => ?_
    have := List.all_eq_true.1 hall i (by simpa using hi)
    obtain ⟨⟨o, j⟩, hm, hc⟩ := List.any_eq_true.1 this
    obtain ⟨k, hk⟩ := List.mem_iff_getElem?.1 hm
    rw [List.getElem?_zipIdx] at hk
    cases ht : (l.take (m + 1))[k]? with
    | none => simp [ht] at hk
    | some o' =>
      simp only [ht, Option.map_some, Option.some.injEq, Prod.mk.injEq, Nat.zero_add] at hk
      obtain ⟨rfl, rfl⟩ := hk
      simp only [Bool.and_eq_true] at hc
      rw [List.getElem?_take] at ht
      split at ht
      · rename_i hlt; exact ⟨k, o', by simpa using hc.1, by omega, ht, hc.2⟩
      · simp at ht
  have b5 : ∀ t o, m < t → l[t]? = some o → waits (t - 1) o.after.toList = true := by
    intro t o ht ho
    have := List.all_eq_true.1 b5 (o, t) (List.mem_iff_getElem?.2 ⟨t, by simp [List.getElem?_zipIdx, ho]⟩)
    simp only [Bool.or_eq_true] at this
    rcases this with h | h
    · have := Nat.le_of_ble_eq_true h; omega
    · exact h
  obtain ⟨es, hK, _, hnd, hes, hq⟩ := WQ.out _ _ _ h (by simp) (by simp)
  have hes : ∀ x ∈ es, ∃ o, (l.take m)[x.1]? = some o ∧ o.dst = some x.2.1 := by
    intro x hx
    rcases hes x hx with hx | ⟨i, o, hi, e1, e2⟩
    · simp at hx
    · exact ⟨o, by rw [e1, Nat.zero_add]; exact hi, e2⟩
  have htk : ∀ i o, (l.take m)[i]? = some o → i < m ∧ l[i]? = some o := by
    intro i o hi
    rw [List.getElem?_take] at hi
    split at hi
    · rename_i hlt; exact ⟨hlt, hi⟩
    · simp at hi
  intro a w ha hw
  refine wp_region_any hm ?_
  have key : ∀ fuel s a w, JS n w0 L0 l m es (drp (dstsOf (l.take m)) E) L s a w → fuel + cnt s l.length = l.length → wpAny P .any l.toArray (lift n w0 L0 Q) fuel s a w := by
    intro fuel
    induction fuel with
    | zero =>
      intro s a w hj hc
      have hfull := cnt_full s l.length (by omega)
      have hml : m = l.length := by
        rcases Nat.lt_or_ge m l.length with hlt | hge
        · have := hfull m hlt; rw [hj.tail m (Nat.le_refl _)] at this; cases this
        · omega
      refine ⟨?_, ?_⟩
      · apply List.eq_nil_iff_forall_not_mem.2
        intro j hjr
        obtain ⟨hun, o, ho, _⟩ := mem_ready.1 hjr
        have hlt : j < l.length := by
          have := (Array.getElem?_eq_some_iff.1 ho).1; simpa using this
        have := hfull j hlt
        simp only [Array.getD_eq_getD_getElem?, Array.getElem?_eq_getElem (show j < s.size by rw [hj.size]; exact hlt), Option.getD_some] at this hun
        rw [this] at hun; cases hun
      · have hK' := hK a w ⟨hj.base.size, hj.base.defers, fun t g v hl => ?_⟩ hj.upd
        · rw [hml, List.drop_length] at hK'; exact hK'
        · rcases lk_append hl with ⟨p, hp, rfl⟩ | hl
          · obtain ⟨j, hjm⟩ := mem_ents hp
            obtain ⟨o, ho, _⟩ := hes _ hjm
            exact hj.ent _ hjm (hfull j (by have := (htk _ _ ho).1; simp only at this; omega))
          · exact hj.base.val t g v hl
    | succ fuel ih =>
      intro s a w hj hc
      by_cases hcomp : ∀ j, j < m → s.getD j false = true
      · -- the head is done
        have hcm := cnt_head s m hcomp hj.tail l.length b1
        have hs : s = headArr m l.length := by
          apply Array.ext
          · rw [hj.size]; simp [headArr]
          · intro j h1 h2
            have h1' : j < l.length := by rw [← hj.size]; exact h1
            have e1 : s.getD j false = s[j] := by simp [h1]
            simp only [headArr, List.getElem_toArray, List.getElem_map, List.getElem_range]
            rw [← e1]
            by_cases hjm : j < m
            · rw [hcomp j hjm]; simp [hjm]
            · rw [hj.tail j (by omega)]; simp [hjm]
        have hfu : fuel + 1 = (l.drop m).length := by rw [List.length_drop]; omega
        rw [hfu]
        refine wpAny_of_seq (l.drop m) m s a w (fun j => by simp [List.getElem?_drop]) (by rw [List.length_drop, hs]; exact b6) ?_
        refine hK a w ⟨hj.base.size, hj.base.defers, fun t g v hl => ?_⟩ hj.upd
        rcases lk_append hl with ⟨p, hp, rfl⟩ | hl
        · obtain ⟨j, hjm⟩ := mem_ents hp
          obtain ⟨o, ho, _⟩ := hes _ hjm
          exact hj.ent _ hjm (hcomp j (htk _ _ ho).1)
        · exact hj.base.val t g v hl
      · -- one of the head
        have hless : ∃ j, j < m ∧ s.getD j false = false := by
          apply Classical.byContradiction
          intro hno
          apply hcomp
          intro j hjm
          cases hv : s.getD j false with
          | true => rfl
          | false => exact absurd ⟨j, hjm, hv⟩ hno
        have hready : ∀ i, i ∈ Region.ready .any l.toArray s → i < m := by
          intro i hi
          obtain ⟨hun, o, ho, hall⟩ := mem_ready.1 hi
          have ho' : l[i]? = some o := by simpa using ho
          apply Classical.byContradiction
          intro hge
          rcases Nat.lt_or_ge m i with hlt | hge'
          · obtain ⟨e, he, hb, heq⟩ := waits_iff.1 (b5 i o hlt ho')
            have := hall e (by simpa using he) hb
            rw [heq, hj.tail (i - 1) (by omega)] at this
            cases this
          · have him : i = m := by omega
            subst him
            rcases b4 with hN | b4
            · have := (List.getElem?_eq_some_iff.1 ho').1; omega
            · have hdown : ∀ k, k ≤ i → ∀ j, i - k ≤ j → j < i → s.getD j false = true := by
                intro k
                induction k with
                | zero => intro _ j h1 h2; omega
                | succ k ihk =>
                  intro hk j h1 h2
                  obtain ⟨j', o', g1, g2, g3, g4⟩ := b4 j h2
                  obtain ⟨e, he, hb, heq⟩ := waits_iff.1 g4
                  by_cases hjj : j' = i
                  · subst hjj
                    rw [ho'] at g3; cases g3
                    have := hall e (by simpa using he) hb
                    rw [heq] at this; exact this
                  · have hl' := ihk (by omega) j' (by omega) (by omega)
                    have := hj.closed j' o' g3 hl' e (by simpa using he) hb
                    rw [heq] at this; exact this
              exact hcomp fun j hjm => hdown i (Nat.le_refl _) j (by omega) hjm
        refine ⟨fun hnil => ?_, fun i hi => ?_⟩
        · -- one is ready
          exfalso
          obtain ⟨j, ⟨hjm, hjs⟩, hmin⟩ := least (fun j => j < m ∧ s.getD j false = false) hless
          have hjl : j < l.length := by omega
          have : j ∈ Region.ready .any l.toArray s := by
            refine mem_ready.2 ⟨?_, l[j], by simp [hjl], ?_⟩
            · simp only [Array.getD_eq_getD_getElem?, Array.getElem?_eq_getElem (show j < s.size by rw [hj.size]; exact hjl), Option.getD_some] at hjs ⊢
              exact hjs
            · intro e he hb
              have hlt := b3 j l[j] (by simp [hjl]) e he hb
              cases hv : s.getD e.on false with
              | true => rfl
              | false => have := hmin e.on ⟨by omega, hv⟩; omega
          rw [hnil] at this; cases this
        · have him := hready i hi
          obtain ⟨hun, o, ho, hall⟩ := mem_ready.1 hi
          have ho' : l[i]? = some o := by simpa using ho
          have hil : i < l.length := by omega
          have his : i < s.size := by rw [hj.size]; exact hil
          have hif : s.getD i false = false := by
            simp only [Array.getD_eq_getD_getElem?, Array.getElem?_eq_getElem his, Option.getD_some] at hun ⊢
            exact hun
          obtain ⟨d, G, v, esi, q1, q2, hd, hp, hr⟩ := hq i o (by rw [List.getElem?_take, if_pos him]; exact ho')
          rw [Nat.zero_add] at q1
          have hE : EnvOk n (pickE o.after.toList esi ++ drp (dstsOf (l.take m)) E) a := by
            refine ⟨hj.base.size, hj.base.defers, fun t g u hl => ?_⟩
            rcases lk_append hl with ⟨p, hp, rfl⟩ | hl
            · obtain ⟨j, hjm, hw⟩ := mem_pickE hp
              obtain ⟨e, he, hb, heq⟩ := waits_iff.1 hw
              have := hall e (by simpa using he) hb
              rw [heq] at this
              exact hj.ent _ (q2 _ hjm) this
            · exact hj.base.val t g u hl
          have hlt : d < n := by simpa using hp.2
          have hdm : d ∈ dstsOf (l.take m) := dstsOf_mem (l := l.take m) (by rw [List.getElem?_take, if_pos him]; exact ho') hd
          have hnext : ∀ w', Upd w0 L0 w' L → JS n w0 L0 l m es (drp (dstsOf (l.take m)) E) L (s.setIfInBounds i true) (a.put (some d) (bif G then v else undef)) w' := by
            intro w' hw'
            refine ⟨by simp [hj.size], ?_, ?_, ?_, ?_, hw'⟩
            · intro j oj hoj hsj e he hb
              rw [getD_set s i _ his]
              rw [getD_set s i _ his] at hsj
              simp only [Bool.or_eq_true, decide_eq_true_eq] at hsj ⊢
              rcases hsj with rfl | hsj
              · rw [ho'] at hoj; cases hoj; exact .inr (hall e he hb)
              · exact .inr (hj.closed j oj hoj hsj e he hb)
            · intro t ht
              rw [getD_set s i _ his, hj.tail t ht]; simp; omega
            · intro x hx hsx
              obtain ⟨ox, hox, hdx⟩ := hes x hx
              by_cases hxi : x.1 = i
              · have hxe : x = (i, d, G, v) := by
                  have hinj : ∀ (l : List Ent), (l.map (·.1)).Nodup → ∀ x ∈ l, ∀ y ∈ l, x.1 = y.1 → x = y := by
                    intro l
                    induction l with
                    | nil => intro _ x hx; simp at hx
                    | cons z r ihr =>
                      intro hn x hx y hy he
                      simp only [List.map_cons, List.nodup_cons] at hn
                      rcases List.mem_cons.1 hx with hx' | hx'
                      · rcases List.mem_cons.1 hy with hy' | hy'
                        · rw [hx', hy']
                        · exact absurd (List.mem_map.2 ⟨y, hy', by rw [← he, hx']⟩) hn.1
                      · rcases List.mem_cons.1 hy with hy' | hy'
                        · exact absurd (List.mem_map.2 ⟨x, hx', by rw [he, hy']⟩) hn.1
                        · exact ihr hn.2 x hx' y hy' he
                  exact hinj es hnd x hx _ q1 hxi
                subst hxe
                simp [Act.put, Array.getElem?_setIfInBounds, hj.base.size, hlt]
              · have hne : d ≠ x.2.1 := fun e => by
                  have := dstsOf_inj (l := l.take m) b2 (i := i) (j := x.1) (by rw [List.getElem?_take, if_pos him]; exact ho') hox (e ▸ hd) hdx
                  exact hxi this.symm
                rw [getD_set s i _ his] at hsx
                simp only [Bool.or_eq_true, decide_eq_true_eq] at hsx
                have := hj.ent x hx (hsx.resolve_left (Ne.symm hxi))
                simpa [Act.put, Array.getElem?_setIfInBounds, hne] using this
            · refine ⟨by simp [Act.put, hj.base.size], by simp [Act.put, hj.base.defers], fun t g u hl => ?_⟩
              have hne : d ≠ t := fun e => drp_lk hl (e ▸ hdm)
              have := hj.base.val t g u hl
              simpa [Act.put, Array.getElem?_setIfInBounds, hne] using this
          have hcn : fuel + cnt (s.setIfInBounds i true) l.length = l.length := by
            rw [cnt_set s i his hif, if_pos hil]; omega
          unfold wpOp
          simp only [ho]
          have hwant := gd_wanted (o := o) hE hp.1
          rw [hwant]
          cases G with
          | true =>
            simp only [if_true]
            exact .inl <| hr rfl a w L (List.Sublist.refl _) hE hj.upd _ _ fun w' hw' => ih _ _ _ (hnext w' hw') hcn
          | false =>
            simp only [Bool.false_eq_true, if_false, hd]
            exact ih _ _ _ (hnext w hj.upd) hcn
  refine key _ _ _ _ ⟨by simp, ?_, ?_, ?_, ha.drp, hw.same rfl rfl rfl rfl⟩ ?_
  · intro j o _ hs
    simp [Array.getElem?_replicate] at hs
    split at hs <;> simp at hs
  · intro t _
    simp [Array.getElem?_replicate]
    split <;> simp
  · intro x _ hs
    simp [Array.getElem?_replicate] at hs
    split at hs <;> simp at hs
  · have hz : ∀ N M, cnt (Array.replicate M false) N = 0 := by
      intro N M; unfold cnt
      rw [List.countP_eq_zero]
      intro j _
      simp [Array.getElem?_replicate]
      split <;> simp
    rw [hz]; simp
theorem WQ.q {all : List Oper} {K : List Ent → Prop} {k d : Nat} {o : Oper} {rest : List Oper} {es : List Ent} {G : Bool} {v : Value} (h : Quiet P n w0 L0 all o (pickE o.after.toList es ++ E) L d G v) (r : WQ P n w0 L0 all E L K (k + 1) rest ((k, d, G, v) :: es)) : WQ P n w0 L0 all E L K k (o :: rest) es := ⟨d, G, v, h, r⟩
theorem WQ.p {all : List Oper} {K : List Ent → Prop} {k d : Nat} {o : Oper} {rest : List Oper} {es : List Ent} {G : Bool} {v : Value} (h : QV P n w0 L0 all o (pickE o.after.toList es ++ E) L d G v) (r : WQ P n w0 L0 all E L K (k + 1) rest ((k, d, G, v) :: es)) : WQ P n w0 L0 all E L K k (o :: rest) es := WQ.q h.q r
theorem WQ.nil {all : List Oper} {K : List Ent → Prop} {k : Nat} {es : List Ent} (h : K es) : WQ P n w0 L0 all E L K k [] es := h
end

/-! ## structs that are compared -/
inductive FK where
  | i (k : IntKind) | s | b
def kindOf (P : Program) (t : TypeId) : Option FK :=
  match P.underlying t with
  | some (.int k) => some (.i k)
  | some .string => some .s
  | some .bool => some .b
  | _ => none
def flatK (P : Program) : Nat → List Field → Option (List FK)
  | _, [] => some []
  | i, f :: r => if f.name = "_" ∨ f.offset ≠ i then none else match kindOf P f.type, flatK P (i + 1) r with
    | some k, some ks => some (k :: ks)
    | _, _ => none
class TFlat (P : Program) (T : TypeId) (ks : outParam (List FK)) : Prop where
  h : P.underlying T = some (.struct (P.fieldsOf T))
  k : flatK P 0 (P.fieldsOf T).toList = some ks
  p : P.stoodInHeld T = false
  g : P.eqGuardType P.depth T = false
def eqK : List FK → List Value → List Value → Option Bool
  | [], [], [] => some true
  | .i k :: ks, .int k1 a :: xs, .int k2 b :: ys => match eqK ks xs ys with
    | some c => if k1 = k ∧ k2 = k then some (decide (a = b) && c) else none
    | none => none
  | .s :: ks, .string a :: xs, .string b :: ys => match eqK ks xs ys with
    | some c => some (decide (a.data.toList = b.data.toList) && c)
    | none => none
  | .b :: ks, .bool a :: xs, .bool b :: ys => match eqK ks xs ys with
    | some c => some ((a == b) && c)
    | none => none
  | _, _, _ => none
theorem kindOf_int {P : Program} {t : TypeId} {k : IntKind} (h : kindOf P t = some (.i k)) : P.underlying t = some (.int k) := by
  unfold kindOf at h; split at h <;> simp_all
theorem kindOf_str {P : Program} {t : TypeId} (h : kindOf P t = some .s) : P.underlying t = some .string := by
  unfold kindOf at h; split at h <;> simp_all
theorem kindOf_bool {P : Program} {t : TypeId} (h : kindOf P t = some .b) : P.underlying t = some .bool := by
  unfold kindOf at h; split at h <;> simp_all
theorem part_one {P : Program} {t : TypeId} {xs0 : List Value} {i : Nat} {x : Value} {w : World} (ha : aggB P t = some false) (hx : xs0[i]? = some x) : (part t xs0.toArray i).run P w = .ok x w := by
  simp [part, Sem.run_bind, run_aggB ha w, hx]
theorem toList_data (a : ByteArray) : a.toList = a.data.toList := by rw [ByteArray.toList_eq]
theorem eqFields_run {P : Program} {w : World} {d : Nat} {xs0 ys0 : List Value} : ∀ (fs : List Field) (i : Nat) (ks : List FK) (xs ys : List Value) (b : Bool), flatK P i fs = some ks → xs0.drop i = xs → ys0.drop i = ys → eqK ks xs ys = some b →
    (Op.eqFields (d + 1) xs0.toArray ys0.toArray fs).run P w = .ok b w
  | [], i, ks, xs, ys, b, hk, hx, hy, he => by
    simp only [flatK, Option.some.injEq] at hk
    subst hk
    cases xs <;> cases ys <;> simp [eqK] at he
    subst he; simp [Op.eqFields]
  | f :: fs, i, ks, xs, ys, b, hk, hx, hy, he => by
    simp only [flatK] at hk
    split at hk
    · simp at hk
    · rename_i hc
      have hc1 : f.name ≠ "_" := fun e => hc (.inl e)
      have hc2 : f.offset = i := Classical.byContradiction fun e => hc (.inr e)
      cases h1 : kindOf P f.type with
      | none => simp [h1] at hk
      | some k =>
        cases h2 : flatK P (i + 1) fs with
        | none => simp [h1, h2] at hk
        | some ks' =>
          simp only [h1, h2, Option.some.injEq] at hk
          subst hk
          cases xs with
          | nil => cases k <;> simp [eqK] at he
          | cons x xs =>
            cases ys with
            | nil => cases k <;> cases x <;> simp [eqK] at he
            | cons y ys =>
              have hx0 : xs0[i]? = some x := by have := congrArg (·[0]?) hx; simpa using this
              have hy0 : ys0[i]? = some y := by have := congrArg (·[0]?) hy; simpa using this
              have hx1 : xs0.drop (i + 1) = xs := by have := congrArg List.tail hx; simpa using this
              have hy1 : ys0.drop (i + 1) = ys := by have := congrArg List.tail hy; simpa using this
              cases hr : eqK ks' xs ys with
              | none => cases k <;> cases x <;> cases y <;> simp [eqK, hr] at he
              | some c =>
                have ih := eqFields_run (P := P) (w := w) (d := d) fs (i + 1) ks' xs ys c h2 hx1 hy1 hr
                have hagg : aggB P f.type = some false := by
                  cases k with
                  | i k => simp [aggB, kindOf_int h1]
                  | s => simp [aggB, kindOf_str h1]
                  | b => simp [aggB, kindOf_bool h1]
                have pa := part_one (w := w) hagg hx0
                have pb := part_one (w := w) hagg hy0
                have heq : ∃ r, (Op.equalIn (d + 1) f.type x y).run P w = .ok r w ∧ b = (r && c) := by
                  cases k with
                  | i k =>
                    cases x <;> cases y <;> simp [eqK, hr] at he
                    obtain ⟨⟨rfl, rfl⟩, rfl⟩ := he
                    exact ⟨_, run_equalIn_int w d f.type _ _ _ _ (kindOf_int h1), by rw [beq_dec]⟩
                  | s =>
                    cases x <;> cases y <;> simp [eqK, hr] at he
                    subst he
                    exact ⟨_, run_equalIn_string w d f.type _ _ (kindOf_str h1), by rw [beq_dec, toList_data, toList_data]; simp⟩
                  | b =>
                    cases x <;> cases y <;> simp [eqK, hr] at he
                    subst he
                    exact ⟨_, run_equalIn_bool w d f.type _ _ (kindOf_bool h1), rfl⟩
                obtain ⟨r, hrun, rfl⟩ := heq
                simp only [Op.eqFields, if_pos hc1, hc2, Sem.run_bind, pa, pb, Result.andThen_ok, hrun]
                cases r <;> simp [ih]
section
variable {P : Program} {n : Nat} {w0 : World} {L0 : Heap} {all : List Oper} {E : Env} {L : Heap}
variable {d : Nat} {x y : Operand} {T T' ty : TypeId} {pos : String} {aft : Array Edge} {g : Option (Nat × Bool)} {G : Bool}
theorem run_equal_flat {ks : List FK} {xs ys : List Value} {b : Bool} {w : World} [ht : TFlat P T ks] (h : eqK ks xs ys = some b) : (Op.equal T (.agg xs.toArray) (.agg ys.toArray)).run P w = .ok b w := by
  have := run_equalIn_struct (P := P) w 9999 T xs.toArray ys.toArray ht.h ht.p
  refine Eq.trans this ?_
  exact eqFields_run (d := 9998) _ 0 ks xs ys b ht.k (by simp) (by simp) h
theorem run_guard_eql {ks : List FK} {xs ys : Array Value} {w : World} [ht : TFlat P T ks] : (eqGuard .eql T x y (.agg xs) (.agg ys)).run P w = .ok () w := by
  simp [eqGuard, Sem.run_bind, ht.g]
theorem run_guard_neq {ks : List FK} {xs ys : Array Value} {w : World} [ht : TFlat P T ks] : (eqGuard .neq T x y (.agg xs) (.agg ys)).run P w = .ok () w := by
  simp [eqGuard, Sem.run_bind, ht.g]
theorem O.eqT {ks : List FK} {xs ys : List Value} {b : Bool} [ht : TFlat P T ks] (hp : Pre n all E g d G := by exact ⟨rfl, rfl⟩) (hx : Val G E x (.agg xs.toArray) := by first | exact vt rfl | exact vs rfl | exact vi rfl and1 | exact vi rfl (fun h => and1 (and1 h)) | exact vi rfl (by simp +contextual)) (hy : Val G E y (.agg ys.toArray) := by first | exact vt rfl | exact vs rfl | exact vi rfl and1 | exact vi rfl (fun h => and1 (and1 h)) | exact vi rfl (by simp +contextual)) (h : eqK ks xs ys = some b := by rfl) : QV P n w0 L0 all ⟨some d, .binOp .eql T x y T', ty, pos, aft, g⟩ E L d G (.bool b) :=
  O.val rfl hp (fun hG a w ha hw => by
    have h1 : binOp .eql T (.agg xs.toArray) (.agg ys.toArray) = (do pure (.bool (← Op.equal T (.agg xs.toArray) (.agg ys.toArray)))) := rfl
    simp [execOp, hx.eval hG ha, hy.eval hG ha, Sem.run_bind, run_guard_eql (P := P) (T := T) (ks := ks), h1, run_equal_flat (P := P) (w := w) h])
theorem O.neT {ks : List FK} {xs ys : List Value} {b : Bool} [ht : TFlat P T ks] (hp : Pre n all E g d G := by exact ⟨rfl, rfl⟩) (hx : Val G E x (.agg xs.toArray) := by first | exact vt rfl | exact vs rfl | exact vi rfl and1 | exact vi rfl (fun h => and1 (and1 h)) | exact vi rfl (by simp +contextual)) (hy : Val G E y (.agg ys.toArray) := by first | exact vt rfl | exact vs rfl | exact vi rfl and1 | exact vi rfl (fun h => and1 (and1 h)) | exact vi rfl (by simp +contextual)) (h : eqK ks xs ys = some b := by rfl) : QV P n w0 L0 all ⟨some d, .binOp .neq T x y T', ty, pos, aft, g⟩ E L d G (.bool (!b)) :=
  O.val rfl hp (fun hG a w ha hw => by
    have h1 : binOp .neq T (.agg xs.toArray) (.agg ys.toArray) = (do pure (.bool (!(← Op.equal T (.agg xs.toArray) (.agg ys.toArray))))) := rfl
    simp [execOp, hx.eval hG ha, hy.eval hG ha, Sem.run_bind, run_guard_neq (P := P) (T := T) (ks := ks), h1, run_equal_flat (P := P) (w := w) h])
theorem O.nc {q : Addr} (hp : Pre n all E g d G := by exact ⟨rfl, rfl⟩) (hx : Val G E x (.pointer (some q)) := by first | exact vt rfl | exact vs rfl | exact vi rfl and1 | exact vi rfl (fun h => and1 (and1 h)) | exact vi rfl (by simp +contextual)) : QV P n w0 L0 all ⟨some d, .nilCheck x, ty, pos, aft, g⟩ E L d G (.pointer (some q)) :=
  O.val rfl hp (fun hG a w ha hw => by simp [execOp, hx.eval hG ha])
end
/-! ## regions that draw their order, with a chain of stores -/
/-- an operation without a result and without guard that turns what is held -/
def Loud (P : Program) (n : Nat) (w0 : World) (L0 : Heap) (o : Oper) (E : Env) (L L' : Heap) : Prop :=
  o.dst = none ∧ o.guard = none ∧ ∀ a w, EnvOk n E a → Upd w0 L0 w L → ∃ w', (execOp a.eval o).run P w = .ok .skip w' ∧ Upd w0 L0 w' L'
/-- a step of the walk: quiet ahead of the first store; quiet whenever it comes; a store -/
inductive SK where
  | pin | flo | lou
def WX (P : Program) (n : Nat) (w0 : World) (L0 : Heap) (all : List Oper) (E : Env) (La Lr : Heap) (K : List Ent → Heap → Prop) : Nat → List Oper → List SK → List Ent → Heap → Prop
  | _, [], _, es, L => K es L
  | k, o :: rest, .pin :: ks, es, L => ∃ d G v, Quiet P n w0 L0 all o (pickE o.after.toList es ++ E) La d G v ∧ WX P n w0 L0 all E La Lr K (k + 1) rest ks ((k, d, G, v) :: es) L
  | k, o :: rest, .flo :: ks, es, L => ∃ d G v, Quiet P n w0 L0 all o (pickE o.after.toList es ++ E) Lr d G v ∧ WX P n w0 L0 all E La Lr K (k + 1) rest ks ((k, d, G, v) :: es) L
  | k, o :: rest, .lou :: ks, es, L => ∃ L', Loud P n w0 L0 o (pickE o.after.toList es ++ E) L L' ∧ Lr.Sublist L' ∧ WX P n w0 L0 all E La Lr K (k + 1) rest ks es L'
  | _, _ :: _, [], _, _ => False

/-- the indices of the stores -/
def lousOf : Nat → List SK → List Nat
  | _, [] => []
  | k, .lou :: r => k :: lousOf (k + 1) r
  | k, _ :: r => lousOf (k + 1) r
def onsOf : List Edge → List Nat
  | [] => []
  | e :: r => bif Region.binds .any e then e.on :: onsOf r else onsOf r
def cloL (l : List Oper) : Nat → List Nat → List Nat
  | 0, xs => xs
  | k + 1, xs => bif isIn k xs then cloL l k ((match l[k]? with | some o => onsOf o.after.toList | none => []) ++ xs) else cloL l k xs
inductive InClo (l : List Oper) (t : Nat) : Nat → Prop where
  | base {i : Nat} {o : Oper} (h : l[t]? = some o) (hw : waits i o.after.toList = true) : InClo l t i
  | step {i j : Nat} {o : Oper} (hj : InClo l t j) (h : l[j]? = some o) (hw : waits i o.after.toList = true) : InClo l t i
theorem onsOf_mem {i : Nat} {af : List Edge} (h : i ∈ onsOf af) : waits i af = true := by
  induction af with
  | nil => simp [onsOf] at h
  | cons e r ih =>
    simp only [onsOf] at h
    cases hb : Region.binds .any e with
    | true =>
      rw [hb] at h
      rcases List.mem_cons.1 h with rfl | h
      · exact waits_iff.2 ⟨e, List.mem_cons_self, hb, rfl⟩
      · obtain ⟨x, hx, g⟩ := waits_iff.1 (ih h); exact waits_iff.2 ⟨x, List.mem_cons_of_mem _ hx, g⟩
    | false => rw [hb] at h; obtain ⟨x, hx, g⟩ := waits_iff.1 (ih h); exact waits_iff.2 ⟨x, List.mem_cons_of_mem _ hx, g⟩
theorem cloL_sound {l : List Oper} {t : Nat} : ∀ (k : Nat) (xs : List Nat), (∀ i ∈ xs, InClo l t i) → ∀ i ∈ cloL l k xs, InClo l t i
  | 0, xs, h, i, hi => h i hi
  | k + 1, xs, h, i, hi => by
    simp only [cloL] at hi
    cases hb : isIn k xs with
    | true =>
      rw [hb] at hi
      refine cloL_sound k _ ?_ i hi
      intro j hj
      rcases List.mem_append.1 hj with hj | hj
      · cases ho : l[k]? with
        | none => simp [ho] at hj
        | some o => rw [ho] at hj; exact .step (h k (isIn_iff.1 hb)) ho (onsOf_mem hj)
      · exact h j hj
    | false => rw [hb] at hi; exact cloL_sound k xs h i hi
def isPin : SK → Bool | .pin => true | _ => false
def isLou : SK → Bool | .lou => true | _ => false
def louAt (ks : List SK) (i : Nat) : Bool := match ks[i]? with | some s => isLou s | none => false
/-- how many stores stand ahead -/
def rk (ks : List SK) : Nat → Nat
  | 0 => 0
  | i + 1 => rk ks i + (if louAt ks i = true then 1 else 0)
/-- the Bool that such a region is asked -/
def drawX (l : List Oper) (ks : List SK) : Bool :=
  decide (ks.length = l.length) && nodupB (dstsOf l) &&
  (l.zipIdx.all fun (o, i) => o.after.toList.all fun e => !Region.binds .any e || Nat.blt e.on i) &&
  (l.zipIdx.all fun (o, i) => !louAt ks i || (List.range i).all fun p => !louAt ks p || !Nat.beq (rk ks p + 1) (rk ks i) || waits p o.after.toList) &&
  (l.zipIdx.all fun (o, t) => !louAt ks t || !Nat.beq (rk ks t) 0 || (let c := cloL l t (onsOf o.after.toList); ks.zipIdx.all fun (s, i) => !isPin s || isIn i c))
theorem rk_mono (ks : List SK) {i j : Nat} (h : i ≤ j) : rk ks i ≤ rk ks j := by
  induction h with
  | refl => exact Nat.le_refl _
  | step _ ih => simp only [rk]; omega
theorem rk_lt (ks : List SK) {i j : Nat} (hi : louAt ks i = true) (h : i < j) : rk ks i < rk ks j := by
  have := rk_mono ks (show i + 1 ≤ j from h)
  simp only [rk, hi, if_true] at this; omega
theorem rk_prev (ks : List SK) {r : Nat} : ∀ i, rk ks i = r + 1 → ∃ p, p < i ∧ louAt ks p = true ∧ rk ks p = r
  | 0, h => by simp [rk] at h
  | i + 1, h => by
    simp only [rk] at h
    split at h
    · rename_i hl; exact ⟨i, by omega, hl, by omega⟩
    · obtain ⟨p, h1, h2, h3⟩ := rk_prev ks i (by omega); exact ⟨p, by omega, h2, h3⟩
theorem rk_cons (s : SK) (ks : List SK) : ∀ i, rk (s :: ks) (i + 1) = (if isLou s = true then 1 else 0) + rk ks i
  | 0 => by simp [rk, louAt]
  | i + 1 => by
    have := rk_cons s ks i
    have e : louAt (s :: ks) (i + 1) = louAt ks i := by simp [louAt]
    rw [rk, this, e, rk]; omega

/-- what the lexical walk gives -/
def Outs (P : Program) (n : Nat) (w0 : World) (L0 : Heap) (all : List Oper) (E : Env) (La Lr : Heap) (K : List Ent → Heap → Prop) (rest : List Oper) (k : Nat) (ks : List SK) (es0 : List Ent) (L : Heap) (c : Nat) : Prop :=
    ∃ es, ∃ H : Nat → Heap, H c = L ∧ K es (H (c + rk ks rest.length)) ∧ (∀ x, c ≤ x → x ≤ c + rk ks rest.length → Lr.Sublist (H x)) ∧ (∀ x ∈ es0, x ∈ es) ∧ (es.map (·.1)).Nodup ∧ (∀ x ∈ es, x ∈ es0 ∨ ∃ i o, rest[i]? = some o ∧ x.1 = k + i ∧ o.dst = some x.2.1) ∧
      ∀ i o, rest[i]? = some o → (∃ d G v esi, (k + i, d, G, v) ∈ es ∧ (∀ x ∈ esi, x ∈ es) ∧ louAt ks i = false ∧ (Quiet P n w0 L0 all o (pickE o.after.toList esi ++ E) Lr d G v ∨ (ks[i]? = some .pin ∧ Quiet P n w0 L0 all o (pickE o.after.toList esi ++ E) La d G v))) ∨
        (louAt ks i = true ∧ ∃ esi, (∀ x ∈ esi, x ∈ es) ∧ Loud P n w0 L0 o (pickE o.after.toList esi ++ E) (H (c + rk ks i)) (H (c + rk ks i + 1)))
theorem WX.out {P : Program} {n : Nat} {w0 : World} {L0 : Heap} {all : List Oper} {E : Env} {La Lr : Heap} {K : List Ent → Heap → Prop} : ∀ (rest : List Oper) (k : Nat) (ks : List SK) (es0 : List Ent) (L : Heap) (c : Nat), WX P n w0 L0 all E La Lr K k rest ks es0 L →
    ks.length = rest.length → Lr.Sublist L → (∀ x ∈ es0, x.1 < k) → (es0.map (·.1)).Nodup → Outs P n w0 L0 all E La Lr K rest k ks es0 L c
  | [], k, ks, es0, L, c, h, hl, hs, _, hnd => by
    cases ks with
    | nil => exact ⟨es0, fun _ => L, rfl, by unfold WX at h; exact h, fun _ _ _ => hs, fun _ h => h, hnd, fun x hx => .inl hx, by simp⟩
    | cons _ _ => simp at hl
  | o :: rest, k, ks, es0, L, c, h, hl, hs, hlt, hnd => by
    cases ks with
    | nil => simp at hl
    | cons s ks =>
      have hl' : ks.length = rest.length := by simpa using hl
      have quiet : ∀ d G v, isLou s = false → o.dst = some d → (Quiet P n w0 L0 all o (pickE o.after.toList es0 ++ E) Lr d G v ∨ (s = .pin ∧ Quiet P n w0 L0 all o (pickE o.after.toList es0 ++ E) La d G v)) →
          WX P n w0 L0 all E La Lr K (k + 1) rest ks ((k, d, G, v) :: es0) L → Outs P n w0 L0 all E La Lr K (o :: rest) k (s :: ks) es0 L c := fun d G v hs0 hd hq hr => by
        obtain ⟨es, H, h1, h2, h3, h4, h5, h6, h7⟩ := WX.out rest (k + 1) ks ((k, d, G, v) :: es0) L c hr hl' hs (by
          intro x hx
          rcases List.mem_cons.1 hx with rfl | hx
          · exact Nat.lt_succ_self k
          · have := hlt x hx; omega) (by
          simp only [List.map_cons, List.nodup_cons]
          refine ⟨fun hm => ?_, hnd⟩
          obtain ⟨x, hx, e⟩ := List.mem_map.1 hm
          have := hlt x hx; omega)
        have hrk : ∀ i, rk (s :: ks) (i + 1) = rk ks i := fun i => by rw [rk_cons, hs0]; simp
        refine ⟨es, H, h1, by rw [List.length_cons, hrk]; exact h2, by rw [List.length_cons, hrk]; exact h3, fun x hx => h4 x (List.mem_cons_of_mem _ hx), h5, ?_, ?_⟩
        · intro x hx
          rcases h6 x hx with hx | ⟨i, o', hi, e1, e2⟩
          · rcases List.mem_cons.1 hx with rfl | hx
            · exact .inr ⟨0, o, rfl, rfl, hd⟩
            · exact .inl hx
          · exact .inr ⟨i + 1, o', by simpa using hi, by omega, e2⟩
        · intro i o' hi
          cases i with
          | zero =>
            simp at hi; subst hi
            refine .inl ⟨d, G, v, es0, h4 _ List.mem_cons_self, fun x hx => h4 x (List.mem_cons_of_mem _ hx), by simp [louAt, hs0], ?_⟩
            exact hq.imp (fun h => h) (fun h => ⟨by simp [h.1], h.2⟩)
          | succ i =>
            have e : louAt (s :: ks) (i + 1) = louAt ks i := by simp [louAt]
            have := h7 i o' (by simpa using hi)
            rw [e, hrk, show k + (i + 1) = k + 1 + i by omega]
            simpa using this
      cases s with
      | pin => unfold WX at h; obtain ⟨d, G, v, hq, hr⟩ := h; exact quiet d G v rfl hq.1 (.inr ⟨rfl, hq⟩) hr
      | flo => unfold WX at h; obtain ⟨d, G, v, hq, hr⟩ := h; exact quiet d G v rfl hq.1 (.inl hq) hr
      | lou =>
        unfold WX at h
        obtain ⟨L', hq, hs', hr⟩ := h
        obtain ⟨es, H, h1, h2, h3, h4, h5, h6, h7⟩ := WX.out rest (k + 1) ks es0 L' (c + 1) hr hl' hs' (fun x hx => by have := hlt x hx; omega) hnd
        have hrk : ∀ i, rk (SK.lou :: ks) (i + 1) = 1 + rk ks i := fun i => by rw [rk_cons]; simp [isLou]
        have hH : ∀ x, x ≠ c → (fun x => if x = c then L else H x) x = H x := fun x hx => if_neg hx
        refine ⟨es, fun x => if x = c then L else H x, if_pos rfl, ?_, ?_, h4, h5, ?_, ?_⟩
        · rw [List.length_cons, hrk, hH _ (by omega), show c + (1 + rk ks rest.length) = c + 1 + rk ks rest.length by omega]; exact h2
        · intro x hx1 hx2
          by_cases e : x = c
          · subst e; simp only [if_true]; exact hs
          · rw [hH x e]; rw [List.length_cons, hrk] at hx2; exact h3 x (by omega) (by omega)
        · intro x hx
          rcases h6 x hx with hx | ⟨i, o', hi, e1, e2⟩
          · exact .inl hx
          · exact .inr ⟨i + 1, o', by simpa using hi, by omega, e2⟩
        · intro i o' hi
          cases i with
          | zero =>
            simp at hi; subst hi
            refine .inr ⟨by simp [louAt, isLou], es0, h4, ?_⟩
            have e0 : rk (SK.lou :: ks) 0 = 0 := rfl
            rw [e0, hH (c + 0 + 1) (by omega), Nat.add_zero, h1]
            simpa using hq
          | succ i =>
            have e : louAt (SK.lou :: ks) (i + 1) = louAt ks i := by simp [louAt]
            have := h7 i o' (by simpa using hi)
            rw [e, hrk, show k + (i + 1) = k + 1 + i by omega]
            rw [hH _ (by omega), hH _ (by omega), show c + (1 + rk ks i) = c + 1 + rk ks i by omega]
            simpa using this

structure JX (n : Nat) (w0 : World) (L0 : Heap) (l : List Oper) (ks : List SK) (H : Nat → Heap) (es : List Ent) (Eb : Env) (s : Array Bool) (a : Act) (w : World) (c : Nat) : Prop where
  size : s.size = l.length
  closed : ∀ j o, l[j]? = some o → s.getD j false = true → ∀ e ∈ o.after, Region.binds .any e = true → s.getD e.on false = true
  ent : ∀ x ∈ es, s.getD x.1 false = true → a.tmps.getD x.2.1 undef = bif x.2.2.1 then x.2.2.2 else undef
  base : EnvOk n Eb a
  lous : ∀ i, i < l.length → louAt ks i = true → (s.getD i false = true ↔ rk ks i < c)
  le : c ≤ rk ks l.length
  upd : Upd w0 L0 w (H c)

section
variable {P : Program} {n : Nat} {w0 : World} {L0 : Heap} {E : Env} {L : Heap} {Q : Post}
theorem CW.drawC {id : Nat} {l : List Oper} (ks : List SK) (Lr : Heap) (hm : P.follows .mixedOrders = true) (hB : drawX l ks = true) (hs : Lr.Sublist L)
    (h : WX P n w0 L0 l (drp (dstsOf l) E) L Lr (fun es L' => Q .normal (ents es ++ drp (dstsOf l) E) L') 0 l ks [] L) :
    CW P n w0 L0 (.region id l.toArray true) E L Q := by
  simp only [drawX, Bool.and_eq_true, decide_eq_true_eq] at hB
  obtain ⟨⟨⟨⟨b1, b2⟩, b3⟩, b4⟩, b5⟩ := hB
  have b2 := nodupB_iff b2
  have b3 : ∀ i o, l[i]? = some o → ∀ e ∈ o.after, Region.binds .any e = true → e.on < i := by
    intro i o hi e he hb
    have := List.all_eq_true.1 b3 (o, i) (List.mem_iff_getElem?.2 ⟨i, by simp [List.getElem?_zipIdx, hi]⟩)
    have := List.all_eq_true.1 this e (by simpa using he)
    simpa [hb] using this
  have b4 : ∀ i o, l[i]? = some o → louAt ks i = true → ∀ p, p < i → louAt ks p = true → rk ks p + 1 = rk ks i → waits p o.after.toList = true := by
    intro i o hi hl p hp hlp hr
    have := List.all_eq_true.1 b4 (o, i) (List.mem_iff_getElem?.2 ⟨i, by simp [List.getElem?_zipIdx, hi]⟩)
    simp only [hl, Bool.not_true, Bool.false_or] at this
    have := List.all_eq_true.1 this p (by simpa using hp)
    have hbq : Nat.beq (rk ks p + 1) (rk ks i) = true := by rw [hr]; simp
    simpa [hlp, hbq] using this
  have b5 : ∀ t o, l[t]? = some o → louAt ks t = true → rk ks t = 0 → ∀ i, ks[i]? = some .pin → InClo l t i := by
    intro t o ht hl hr i hi
    have := List.all_eq_true.1 b5 (o, t) (List.mem_iff_getElem?.2 ⟨t, by simp [List.getElem?_zipIdx, ht]⟩)
    simp only [hl, Bool.not_true, Bool.false_or, hr] at this
    have hz : Nat.beq 0 0 = true := rfl
    rw [hz, Bool.not_true, Bool.false_or] at this
    have := List.all_eq_true.1 this (SK.pin, i) (List.mem_iff_getElem?.2 ⟨i, by simp [List.getElem?_zipIdx, hi]⟩)
    simp only [isPin, Bool.not_true, Bool.false_or] at this
    exact cloL_sound _ _ (fun j hj => .base ht (onsOf_mem hj)) i (isIn_iff.1 this)
  obtain ⟨es, H, hH0, hK, hLr, _, hnd, hes, hq⟩ := WX.out l 0 ks [] L 0 h b1 hs (by simp) (by simp)
  simp only [Nat.zero_add] at hK hLr hq
  have hes : ∀ x ∈ es, ∃ o, l[x.1]? = some o ∧ o.dst = some x.2.1 := by
    intro x hx
    rcases hes x hx with hx | ⟨i, o, hi, e1, e2⟩
    · simp at hx
    · exact ⟨o, by rw [e1, Nat.zero_add]; exact hi, e2⟩
  intro a w ha hw
  refine wp_region_any hm ?_
  have key : ∀ fuel s a w c, JX n w0 L0 l ks H es (drp (dstsOf l) E) s a w c → fuel + cnt s l.length = l.length → wpAny P .any l.toArray (lift n w0 L0 Q) fuel s a w := by
    intro fuel
    induction fuel with
    | zero =>
      intro s a w c hj hc
      have hfull := cnt_full s l.length (by omega)
      have hct : c = rk ks l.length := by
        apply Classical.byContradiction
        intro hne
        have hlt : c < rk ks l.length := by have := hj.le; omega
        -- the store of rank c is listed
        have : ∀ r, r < rk ks l.length → ∃ p, p < l.length ∧ louAt ks p = true ∧ rk ks p = r := by
          intro r hr
          obtain ⟨q, hqr⟩ : ∃ q, rk ks l.length = q + 1 + r := ⟨rk ks l.length - 1 - r, by omega⟩
          clear hr hlt hne
          have gen : ∀ q i, i ≤ l.length → rk ks i = q + 1 + r → ∃ p, p < l.length ∧ louAt ks p = true ∧ rk ks p = r := by
            intro q
            induction q with
            | zero => intro i hi e; obtain ⟨p, h1, h2, h3⟩ := rk_prev ks (r := r) i (by omega); exact ⟨p, by omega, h2, h3⟩
            | succ q ih => intro i hi e; obtain ⟨p, h1, h2, h3⟩ := rk_prev ks (r := q + 1 + r) i (by omega); exact ih p (by omega) h3
          exact gen q l.length (Nat.le_refl _) hqr
        obtain ⟨p, hp, hl, hr⟩ := this c hlt
        have := (hj.lous p hp hl).1 (hfull p hp)
        omega
      refine ⟨?_, ?_⟩
      · apply List.eq_nil_iff_forall_not_mem.2
        intro j hjr
        obtain ⟨hun, o, ho, _⟩ := mem_ready.1 hjr
        have hlt : j < l.length := by
          have := (Array.getElem?_eq_some_iff.1 ho).1; simpa using this
        have := hfull j hlt
        simp only [Array.getD_eq_getD_getElem?, Array.getElem?_eq_getElem (show j < s.size by rw [hj.size]; exact hlt), Option.getD_some] at this hun
        rw [this] at hun; cases hun
      · refine ⟨_, _, hK, ⟨hj.base.size, hj.base.defers, fun t g v hl => ?_⟩, hct ▸ hj.upd⟩
        rcases lk_append hl with ⟨p, hp, rfl⟩ | hl
        · obtain ⟨j, hjm⟩ := mem_ents hp
          obtain ⟨o, ho, _⟩ := hes _ hjm
          exact hj.ent _ hjm (hfull j (List.getElem?_eq_some_iff.1 ho).1)
        · exact hj.base.val t g v hl
    | succ fuel ih =>
      intro s a w c hj hc
      have hless : ∃ j, j < l.length ∧ s.getD j false = false := by
        apply Classical.byContradiction
        intro hno
        have hall : ∀ j, j < l.length → s.getD j false = true := by
          intro j hjm
          cases hv : s.getD j false with
          | true => rfl
          | false => exact absurd ⟨j, hjm, hv⟩ hno
        have := cnt_head s l.length hall (fun t ht => by simp [Array.getElem?_eq_none (show s.size ≤ t by rw [hj.size]; exact ht)]) l.length (Nat.le_refl _)
        omega
      refine ⟨fun hnil => ?_, fun i hi => ?_⟩
      · exfalso
        obtain ⟨j, ⟨hjl, hjs⟩, hmin⟩ := least (fun j => j < l.length ∧ s.getD j false = false) hless
        have : j ∈ Region.ready .any l.toArray s := by
          refine mem_ready.2 ⟨?_, l[j], by simp [hjl], ?_⟩
          · simp only [Array.getD_eq_getD_getElem?, Array.getElem?_eq_getElem (show j < s.size by rw [hj.size]; exact hjl), Option.getD_some] at hjs ⊢
            exact hjs
          · intro e he hb
            have hlt := b3 j l[j] (by simp [hjl]) e he hb
            cases hv : s.getD e.on false with
            | true => rfl
            | false => have := hmin e.on ⟨by omega, hv⟩; omega
        rw [hnil] at this; cases this
      · obtain ⟨hun, o, ho, hall⟩ := mem_ready.1 hi
        have ho' : l[i]? = some o := by simpa using ho
        have hil : i < l.length := (List.getElem?_eq_some_iff.1 ho').1
        have his : i < s.size := by rw [hj.size]; exact hil
        have hif : s.getD i false = false := by
          simp only [Array.getD_eq_getD_getElem?, Array.getElem?_eq_getElem his, Option.getD_some] at hun ⊢
          exact hun
        have henv : ∀ esi : List Ent, (∀ x ∈ esi, x ∈ es) → EnvOk n (pickE o.after.toList esi ++ drp (dstsOf l) E) a := by
          intro esi q2
          refine ⟨hj.base.size, hj.base.defers, fun t g u hl => ?_⟩
          rcases lk_append hl with ⟨p, hp, rfl⟩ | hl
          · obtain ⟨j, hjm, hw⟩ := mem_pickE hp
            obtain ⟨e, he, hb, heq⟩ := waits_iff.1 hw
            have := hall e (by simpa using he) hb
            rw [heq] at this
            exact hj.ent _ (q2 _ hjm) this
          · exact hj.base.val t g u hl
        have hclosed : ∀ j oj, l[j]? = some oj → (s.setIfInBounds i true).getD j false = true → ∀ e ∈ oj.after, Region.binds .any e = true → (s.setIfInBounds i true).getD e.on false = true := by
          intro j oj hoj hsj e he hb
          rw [getD_set s i _ his]
          rw [getD_set s i _ his] at hsj
          simp only [Bool.or_eq_true, decide_eq_true_eq] at hsj ⊢
          rcases hsj with rfl | hsj
          · rw [ho'] at hoj; cases hoj; exact .inr (hall e he hb)
          · exact .inr (hj.closed j oj hoj hsj e he hb)
        have hcn : fuel + cnt (s.setIfInBounds i true) l.length = l.length := by
          rw [cnt_set s i his hif, if_pos hil]; omega
        unfold wpOp
        simp only [ho]
        rcases hq i o ho' with ⟨d, G, v, esi, q1, q2, q3, q4⟩ | ⟨q3, esi, q2, hd, hg, hr⟩
        · have hE := henv esi q2
          have hqq : ∃ Lq, Lq.Sublist (H c) ∧ Quiet P n w0 L0 l o (pickE o.after.toList esi ++ drp (dstsOf l) E) Lq d G v := by
            rcases q4 with q4 | ⟨hp, q4⟩
            · exact ⟨Lr, hLr c (Nat.zero_le _) hj.le, q4⟩
            · have hc0 : c = 0 := by
                apply Classical.byContradiction
                intro hne
                have hpos : 0 < rk ks l.length := by have := hj.le; omega
                have gen : ∀ q i, i ≤ l.length → rk ks i = q + 1 → ∃ p, p < l.length ∧ louAt ks p = true ∧ rk ks p = 0 := by
                  intro q
                  induction q with
                  | zero => intro i hi e; obtain ⟨p, h1, h2, h3⟩ := rk_prev ks (r := 0) i (by omega); exact ⟨p, by omega, h2, h3⟩
                  | succ q ih => intro i hi e; obtain ⟨p, h1, h2, h3⟩ := rk_prev ks (r := q + 1) i (by omega); exact ih p (by omega) h3
                obtain ⟨t, ht, hlt, hrt⟩ := gen (rk ks l.length - 1) l.length (Nat.le_refl _) (by omega)
                have hts := (hj.lous t ht hlt).2 (by omega)
                have hcl := b5 t l[t] (by simp [ht]) hlt hrt i hp
                have : ∀ j, InClo l t j → s.getD j false = true := by
                  intro j hjc
                  induction hjc with
                  | base h hw => obtain ⟨e, he, hb, heq⟩ := waits_iff.1 hw; rw [← heq]; exact hj.closed _ _ h hts e (by simpa using he) hb
                  | step _ h hw ih => obtain ⟨e, he, hb, heq⟩ := waits_iff.1 hw; rw [← heq]; exact hj.closed _ _ h ih e (by simpa using he) hb
                rw [this i hcl] at hif; cases hif
              subst hc0
              exact ⟨L, by rw [hH0]; exact List.Sublist.refl _, q4⟩
          obtain ⟨Lq, hsub, hd, hp, hr⟩ := hqq
          have hlt : d < n := by simpa using hp.2
          have hdm : d ∈ dstsOf l := dstsOf_mem ho' hd
          have hnext : ∀ w', Upd w0 L0 w' (H c) → JX n w0 L0 l ks H es (drp (dstsOf l) E) (s.setIfInBounds i true) (a.put (some d) (bif G then v else undef)) w' c := by
            intro w' hw'
            refine ⟨by simp [hj.size], hclosed, ?_, ?_, ?_, hj.le, hw'⟩
            · intro x hx hsx
              obtain ⟨ox, hox, hdx⟩ := hes x hx
              by_cases hxi : x.1 = i
              · have hxe : x = (i, d, G, v) := by
                  have hinj : ∀ (l : List Ent), (l.map (·.1)).Nodup → ∀ x ∈ l, ∀ y ∈ l, x.1 = y.1 → x = y := by
                    intro l
                    induction l with
                    | nil => intro _ x hx; simp at hx
                    | cons z r ihr =>
                      intro hn x hx y hy he
                      simp only [List.map_cons, List.nodup_cons] at hn
                      rcases List.mem_cons.1 hx with hx' | hx'
                      · rcases List.mem_cons.1 hy with hy' | hy'
                        · rw [hx', hy']
                        · exact absurd (List.mem_map.2 ⟨y, hy', by rw [← he, hx']⟩) hn.1
                      · rcases List.mem_cons.1 hy with hy' | hy'
                        · exact absurd (List.mem_map.2 ⟨x, hx', by rw [he, hy']⟩) hn.1
                        · exact ihr hn.2 x hx' y hy' he
                  exact hinj es hnd x hx _ (by simpa using q1) hxi
                subst hxe
                simp [Act.put, Array.getElem?_setIfInBounds, hj.base.size, hlt]
              · have hne : d ≠ x.2.1 := fun e => by
                  have := dstsOf_inj (l := l) b2 ho' hox (e ▸ hd) hdx
                  exact hxi this.symm
                rw [getD_set s i _ his] at hsx
                simp only [Bool.or_eq_true, decide_eq_true_eq] at hsx
                have := hj.ent x hx (hsx.resolve_left (Ne.symm hxi))
                simpa [Act.put, Array.getElem?_setIfInBounds, hne] using this
            · refine ⟨by simp [Act.put, hj.base.size], by simp [Act.put, hj.base.defers], fun t g u hl => ?_⟩
              have hne : d ≠ t := fun e => drp_lk hl (e ▸ hdm)
              have := hj.base.val t g u hl
              simpa [Act.put, Array.getElem?_setIfInBounds, hne] using this
            · intro j hjl hlj
              rw [getD_set s i _ his]
              have hne : i ≠ j := fun e => by subst e; rw [hlj] at q3; cases q3
              simpa [hne] using hj.lous j hjl hlj
          have hwant := gd_wanted (o := o) hE hp.1
          rw [hwant]
          cases G with
          | true =>
            simp only [if_true]
            exact .inl <| hr rfl a w (H c) hsub hE hj.upd _ _ fun w' hw' => ih _ _ _ c (hnext w' hw') hcn
          | false =>
            simp only [Bool.false_eq_true, if_false, hd]
            exact ih _ _ _ c (hnext w hj.upd) hcn
        · have hE := henv esi q2
          have hrc : rk ks i = c := by
            have hge : ¬ rk ks i < c := fun h => by
              have := (hj.lous i hil q3).2 h
              rw [this] at hif; cases hif
            apply Classical.byContradiction
            intro hne
            obtain ⟨r, hr1⟩ : ∃ r, rk ks i = r + 1 := ⟨rk ks i - 1, by omega⟩
            obtain ⟨p, h1, h2, h3⟩ := rk_prev ks i hr1
            obtain ⟨e, he, hb, heq⟩ := waits_iff.1 (b4 i o ho' q3 p h1 h2 (by omega))
            have := hall e (by simpa using he) hb
            rw [heq] at this
            have := (hj.lous p (by omega) h2).1 this
            omega
          obtain ⟨w', hrun, hu⟩ := hr a w hE (by rw [hrc]; exact hj.upd)
          have hwant : Region.wanted o (yielded l.toArray a.tmps) = true := by simp [Region.wanted, hg]
          rw [if_pos hwant]
          refine .inl ?_
          simp only [Oper.wp, hrun, Oper.upon, hd, Act.put]
          refine ih _ _ _ (c + 1) ⟨by simp [hj.size], hclosed, ?_, hj.base, ?_, ?_, by rw [hrc] at hu; exact hu⟩ hcn
          · intro x hx hsx
            rw [getD_set s i _ his] at hsx
            simp only [Bool.or_eq_true, decide_eq_true_eq] at hsx
            refine hj.ent x hx (hsx.resolve_left fun e => ?_)
            obtain ⟨ox, hox, hdx⟩ := hes x hx
            rw [← e, ho'] at hox; cases hox
            rw [hd] at hdx; cases hdx
          · intro j hjl hlj
            rw [getD_set s i _ his]
            by_cases e : i = j
            · subst e; simp; omega
            · simp only [e, decide_false, Bool.false_or]
              rw [hj.lous j hjl hlj]
              constructor
              · intro h; omega
              · intro h
                apply Classical.byContradiction
                intro hn
                have : rk ks j = rk ks i := by omega
                rcases Nat.lt_or_ge i j with hlt | hge
                · have := rk_lt ks q3 hlt; omega
                · have := rk_lt ks hlj (show j < i by omega); omega
          · have := rk_lt ks q3 hil; omega
  refine key _ _ _ _ 0 ⟨by simp, ?_, ?_, ha.drp, ?_, Nat.zero_le _, by rw [hH0]; exact hw.same rfl rfl rfl rfl⟩ ?_
  · intro j o _ hs
    simp [Array.getElem?_replicate] at hs
    split at hs <;> simp at hs
  · intro x _ hs
    simp [Array.getElem?_replicate] at hs
    split at hs <;> simp at hs
  · intro i hi _
    simp [Array.getElem?_replicate]
    split <;> simp
  · have hz : ∀ N M, cnt (Array.replicate M false) N = 0 := by
      intro N M; unfold cnt
      rw [List.countP_eq_zero]
      intro j _
      simp [Array.getElem?_replicate]
      split <;> simp
    rw [hz]; simp
variable {all : List Oper} {La Lr : Heap} {K : List Ent → Heap → Prop} {k d : Nat} {o : Oper} {rest : List Oper} {ks : List SK} {es : List Ent} {G : Bool} {v : Value}
theorem WX.p (h : Quiet P n w0 L0 all o (pickE o.after.toList es ++ E) La d G v) (r : WX P n w0 L0 all E La Lr K (k + 1) rest ks ((k, d, G, v) :: es) L) : WX P n w0 L0 all E La Lr K k (o :: rest) (.pin :: ks) es L := by unfold WX; exact ⟨d, G, v, h, r⟩
theorem WX.f (h : Quiet P n w0 L0 all o (pickE o.after.toList es ++ E) Lr d G v) (r : WX P n w0 L0 all E La Lr K (k + 1) rest ks ((k, d, G, v) :: es) L) : WX P n w0 L0 all E La Lr K k (o :: rest) (.flo :: ks) es L := by unfold WX; exact ⟨d, G, v, h, r⟩
theorem WX.l {L' : Heap} (h : Loud P n w0 L0 o (pickE o.after.toList es ++ E) L L') (hs : Lr.Sublist L') (r : WX P n w0 L0 all E La Lr K (k + 1) rest ks es L') : WX P n w0 L0 all E La Lr K k (o :: rest) (.lou :: ks) es L := by unfold WX; exact ⟨L', h, hs, r⟩
theorem WX.nil (h : K es L) : WX P n w0 L0 all E La Lr K k [] ks es L := by unfold WX; exact h
theorem O.st {x y : Operand} {T U ty : TypeId} {pos : String} {aft : Array Edge} {b o : Nat} {u : Value} {cs vs cs' : List Value} {L' : Heap} (hx : Val true E x (.pointer (some ⟨b, o, none⟩)) := by first | exact vt rfl | exact vs rfl | exact vi rfl and1 | exact vi rfl (fun h => and1 (and1 h)) | exact vi rfl (by simp +contextual)) (hy : Val true E y u := by first | exact vt rfl | exact vs rfl | exact vi rfl and1 | exact vi rfl (fun h => and1 (and1 h)) | exact vi rfl (by simp +contextual)) (hu : u.cells = vs.toArray) [hb : Blk L b (.cells cs.toArray U (0, 0))] [hs : Ovr cs o vs cs'] [h1 : One vs] [ht : TSize P T vs.length]
    [hr : Rep L b (.cells cs.toArray U (0, 0)) (.cells cs'.toArray U (0, 0)) L'] : Loud P n w0 L0 ⟨none, .store T x y, ty, pos, aft, none⟩ E L L' :=
  ⟨rfl, rfl, fun a w ha hw => by
    have := run_store_ovr (P := P) (T := T) (hw.has _ hb.h) (vs := vs) (cs' := cs') (o := o) hu
    exact ⟨w.setRow b cs'.toArray, by simp [execOp, Instr.storeAt, Instr.sureAddr, hx.eval rfl ha, hy.eval rfl ha, Sem.run_bind, this], hw.setRow hr⟩⟩
end

/-! ## regions that draw their order, order by order: what is quiet is taken first -/
section
variable {P : Program} {n : Nat} {w0 : World} {L0 : Heap} {l : List Oper} {Lr : Heap} {E : Env} {L : Heap} {Q : Post} {fuel i j : Nat} {s : Array Bool} {o o' : Oper} {d : Nat} {G : Bool} {v : Value}
def RH (P : Program) (n : Nat) (w0 : World) (L0 : Heap) (l : List Oper) (Lr : Heap) (fuel : Nat) (s : Array Bool) (E : Env) (L : Heap) (Q : Post) : Prop :=
  ∀ a w, EnvOk n E a → Upd w0 L0 w L → wpAnyH P .any l.toArray (lift n w0 L0 Q) (fun w => Upd w0 L0 w Lr) fuel s a w
theorem CW.drawH {id : Nat} (Lr : Heap) (hm : P.follows .mixedOrders = true) (h : RH P n w0 L0 l Lr l.length (Array.replicate l.length false) E L Q) : CW P n w0 L0 (.region id l.toArray true) E L Q :=
  fun a w ha hw => wp_region_held (S := fun w => Upd w0 L0 w Lr) hm (h a { w with drawn := w.drawn + 1 } ha (hw.same rfl rfl rfl rfl))
theorem CW.drawHL {id : Nat} (hm : P.follows .mixedOrders = true) (h : RH P n w0 L0 l L l.length (Array.replicate l.length false) E L Q) : CW P n w0 L0 (.region id l.toArray true) E L Q := CW.drawH L hm h
theorem RH.done (hr : (Region.ready .any l.toArray s).isEmpty = true) (h : Q .normal E L) : RH P n w0 L0 l Lr fuel s E L Q :=
  fun a w ha hw => wpAnyH_done (by simpa using hr) ⟨E, L, h, ha, hw⟩ _
/-- number 'i' is taken first -/
theorem RH.q (i : Nat) (hq : ∀ c E L, Q (.panic c) E L → False) (ho : l[i]? = some o) (hb : (Region.noSelect l.toArray && Region.free .any l.toArray s i && (Region.ready .any l.toArray s).contains i) = true) (hs : Lr.Sublist L)
    (h : QV P n w0 L0 l o E Lr d G v) (k : RH P n w0 L0 l Lr fuel (s.setIfInBounds i true) ((d, G, v) :: E) L Q) : RH P n w0 L0 l Lr (fuel + 1) s E L Q := by
  intro a w ha hw
  simp only [Bool.and_eq_true] at hb
  obtain ⟨⟨b1, b2⟩, b3⟩ := hb
  obtain ⟨hd, hp, hr⟩ := h
  have hlt : d < n := by simpa using hp.2
  have hwant := gd_wanted (o := o) ha hp.1
  refine wpAnyH_take (i := i) (oi := o) (v := bif G then v else undef) (by simpa using ho) b1 b2 b3 (fun c a w h => ?_) ?_ (hw.sub hs) ?_
  · obtain ⟨E', L', q, _⟩ := h; exact (hq c E' L' q).elim
  · cases G with
    | true => exact .inl ⟨hwant, fun w' hw' => hr rfl a w' ha hw'⟩
    | false => exact .inr ⟨hwant, rfl⟩
  · rw [hd]; exact k _ w (ha.put hlt) hw
def Qn (Q : Post) (K : Env → Heap → Prop) : Post
  | .normal, E, L => K E L
  | e, E, L => Q e E L
theorem WL.nilQn {all : List Oper} {K : Env → Heap → Prop} (h : K E L) : WL P n w0 L0 all [] E L (Qn Q K) := WL.nil h
theorem wp_monoQ {o : Oper} {a : Act} {w : World} {K K' : Act → World → Prop} {Q Q' : Exit → Act → World → Prop} (h : ∀ a w, K a w → K' a w) (hQ : ∀ e a w, e ≠ .normal → Q e a w → Q' e a w)
    (hh : o.wp P a w K Q) : o.wp P a w K' Q' := by
  unfold Oper.wp at *
  generalize (execOp a.eval o).run P w = r at *
  cases r with
  | ok n w' =>
    cases n <;> simp only [Oper.upon] at hh ⊢ <;>
      first
        | exact h _ _ hh
        | exact Calls.mono hh (fun e w'' he => by cases e <;> first | exact h _ _ he | exact hQ _ _ _ (by simp) he | (obtain ⟨a', w', q⟩ := he; exact ⟨a', w', hQ _ _ _ (by simp) q⟩))
        | exact Rows.mono hh (fun _ _ he => h _ _ he)
  | halt x w' => cases x <;> simp only [Oper.upon] at hh ⊢ <;> first | exact hQ _ _ _ (by simp) hh | exact hh
theorem wpOp_of_WL (ho : l[i]? = some o) (hq : ∀ E L, ¬ Q .outgrown E L) (h : WL P n w0 L0 l [o] E L (Qn Q fun E' L' => Lr.Sublist L' ∧ RH P n w0 L0 l Lr fuel (s.setIfInBounds i true) E' L' Q)) {a : Act} {w : World} (ha : EnvOk n E a) (hw : Upd w0 L0 w L) :
    wpOp P l.toArray (lift n w0 L0 Q) i (fun a' w' => Upd w0 L0 w' Lr ∧ wpAnyH P .any l.toArray (lift n w0 L0 Q) (fun w => Upd w0 L0 w Lr) fuel (s.setIfInBounds i true) a' w') a w := by
  have := h a w ha hw
  unfold wpList at this
  unfold wpOp
  have ho' : l.toArray[i]? = some o := by simpa using ho
  simp only [ho']
  have hfin : ∀ a' w', wpList P l.toArray (lift n w0 L0 (Qn Q fun E' L' => Lr.Sublist L' ∧ RH P n w0 L0 l Lr fuel (s.setIfInBounds i true) E' L' Q)) [] a' w' →
      Upd w0 L0 w' Lr ∧ wpAnyH P .any l.toArray (lift n w0 L0 Q) (fun w => Upd w0 L0 w Lr) fuel (s.setIfInBounds i true) a' w' := by
    rintro a' w' ⟨E', L', ⟨h1, h2⟩, ha', hw'⟩
    exact ⟨hw'.sub h1, h2 a' w' ha' hw'⟩
  split
  · rename_i hwant
    rw [if_pos hwant] at this
    rcases this with h | ⟨_, _, _, E', L', q, _⟩
    · refine .inl (wp_monoQ hfin ?_ h)
      rintro e a' w' hne ⟨E', L', q, r⟩
      cases e with
      | normal => exact absurd rfl hne
      | _ => exact ⟨E', L', q, r⟩
    · exact absurd q (hq E' L')
  · rename_i hwant
    rw [if_neg hwant] at this
    exact hfin _ _ this
/-- just one may come up -/
theorem RH.one (hq : ∀ E L, Q .outgrown E L → False) (hr : Region.ready .any l.toArray s = [i]) (ho : l[i]? = some o)
    (h : WL P n w0 L0 l [o] E L (Qn Q fun E' L' => Lr.Sublist L' ∧ RH P n w0 L0 l Lr fuel (s.setIfInBounds i true) E' L' Q)) : RH P n w0 L0 l Lr (fuel + 1) s E L Q :=
  fun a w ha hw => wpAnyH_all hr (by simp) fun x hx => by
    have : x = i := by simpa using hx
    subst this
    exact wpOp_of_WL ho hq h ha hw
/-- one of two comes up -/
theorem RH.two (hq : ∀ E L, Q .outgrown E L → False) (hr : Region.ready .any l.toArray s = [i, j]) (ho : l[i]? = some o) (ho' : l[j]? = some o')
    (h : WL P n w0 L0 l [o] E L (Qn Q fun E' L' => Lr.Sublist L' ∧ RH P n w0 L0 l Lr fuel (s.setIfInBounds i true) E' L' Q))
    (h' : WL P n w0 L0 l [o'] E L (Qn Q fun E' L' => Lr.Sublist L' ∧ RH P n w0 L0 l Lr fuel (s.setIfInBounds j true) E' L' Q)) : RH P n w0 L0 l Lr (fuel + 1) s E L Q :=
  fun a w ha hw => wpAnyH_all hr (by simp) fun x hx => by
    simp only [List.mem_cons, List.not_mem_nil, or_false] at hx
    rcases hx with rfl | rfl
    · exact wpOp_of_WL ho hq h ha hw
    · exact wpOp_of_WL ho' hq h' ha hw
end

/-! ## bytes -/
abbrev bv (b : UInt8) : Value := .int .u8 b.toNat
section
variable {P : Program} {n : Nat} {w0 : World} {L0 : Heap} {all rest : List Oper} {E : Env} {L : Heap} {Q : Post}
variable {d : Nat} {x y z : Operand} {T T' U ty : TypeId} {pos : String} {aft : Array Edge} {g : Option (Nat × Bool)} {G : Bool} {fz : Nat × Nat}
theorem madeBytes (m : Nat) : madeCells #[.int .u8 0] (m * 1) = ((List.replicate m (0 : UInt8)).map bv).toArray := by
  apply Array.ext'
  simp only [madeCells, Nat.mul_one, List.size_toArray, List.length_cons, List.length_nil, Nat.zero_add, Nat.mod_one, Array.toList_map, Array.toList_range, List.toList_toArray]
  apply List.ext_getElem
  · simp
  · intro i h1 h2
    simp [bv]
class TBytes (P : Program) (T : TypeId) (U : outParam TypeId) : Prop where
  s : P.underlying T = some (.slice U)
  i : (P.info? U).map (fun i => (i.zero, i.size, i.bytes)) = some (some (.int .u8 0), 1, 1)
theorem TBytes.run {P : Program} {T U : TypeId} [h : TBytes P T U] {k1 k2 : IntKind} {p q : Int} {w : World} (h0 : 0 ≤ p) (h1 : p ≤ q) (h2 : q ≤ 281474976710656) :
    (Instr.makeSlice T (.int k1 p) (.int k2 q)).run P w = .ok (.slice (some ⟨w.heap.size, 0, none⟩) p.toNat q.toNat) (w.alloc (.cells ((List.replicate q.toNat (0 : UInt8)).map bv).toArray U)) := by
  have hi := h.i
  cases hu : P.info? U with
  | none => simp [hu] at hi
  | some i =>
    simp only [hu, Option.map_some, Option.some.injEq, Prod.mk.injEq] at hi
    have := run_make (P := P) (w := w) T U i (.int .u8 0) h.s hu hi.1 k1 k2 p q h0 h1 (by rw [hi.2.2]; omega) (by omega)
    rw [this, hi.2.1]
    exact congrArg _ (congrArg _ (congrArg (fun c => Obj.cells c U) (madeBytes q.toNat)))
/-- 'make([]byte, n)' -/
theorem W.mkB {k1 k2 : IntKind} {p q : Int} [TBytes P T U] (hn : Nat.blt d n = true) (hx : Val true E x (.int k1 p)) (hy : Val true E y (.int k2 q)) (h : 0 ≤ p ∧ p ≤ q ∧ q ≤ 281474976710656)
    (k : ∀ b, WL P n w0 L0 all rest ((d, true, .slice (some ⟨b, 0, none⟩) p.toNat q.toNat) :: E) ((b, .cells ((List.replicate q.toNat (0 : UInt8)).map bv).toArray U (0, 0)) :: L) Q) : WL P n w0 L0 all (⟨some d, .makeSlice T x y, ty, pos, aft, none⟩ :: rest) E L Q :=
  W.new (v := fun b => .slice (some ⟨b, 0, none⟩) p.toNat q.toNat) rfl rfl hn (fun a w ha _ => by
    have := TBytes.run (P := P) (T := T) (U := U) (k1 := k1) (k2 := k2) (w := w) h.1 h.2.1 h.2.2
    simp [execOp, hx.eval rfl ha, hy.eval rfl ha, Sem.run_bind, this]) k
end

/-- a law's walk, as the row asks for it -/
theorem Fn.below {P : Program} {f : FuncId} {args : List Value} {w : World} {v0 : Value} (h : Fn P f args w [] fun v L' => v = v0 ∧ L' = []) : Calls P f args.toArray w fun e w' => e = .returned v0 ∧ Below w.heap.size w w' :=
  Calls.mono h fun e w' ⟨v, L', h1, ⟨h2, _⟩, h3⟩ => ⟨by rw [h1, h2], h3.os, h3.tape, h3.output, h3.size, fun k hk => h3.old k hk (by simp)⟩
/-- what a condition's truth says, for 'simp only' -/
theorem sk : (∀ b c : Bool, cond b true c = (b || c)) ∧ (∀ b c : Bool, cond b c false = (b && c)) ∧ (∀ a b : Bool, ((a || b) = true) = (a = true ∨ b = true)) ∧ (∀ a b : Bool, ((a || b) = false) = (a = false ∧ b = false)) ∧ (∀ a b : Bool, ((a && b) = true) = (a = true ∧ b = true)) ∧ (∀ a b : Bool, ((a && b) = false) = (a = false ∨ b = false)) ∧ (∀ (p : Prop) [h : Decidable p], (decide p = true) = p) ∧ (∀ (p : Prop) [h : Decidable p], (decide p = false) = ¬p) ∧ (∀ b : Bool, ((!b) = true) = (b = false)) ∧ (∀ b : Bool, ((!b) = false) = (b = true)) :=
  ⟨fun b c => Bool.cond_true_left b c, fun b c => Bool.cond_false_right b c, fun a b => Bool.or_eq_true a b, fun a b => propext (Bool.or_eq_false_iff), fun a b => Bool.and_eq_true a b, fun a b => propext (Bool.and_eq_false_iff), fun p _ => propext decide_eq_true_iff, fun p _ => propext decide_eq_false_iff_not, fun b => propext (by cases b <;> simp), fun b => propext (by cases b <;> simp)⟩
section
variable {P : Program} {n : Nat} {w0 : World} {L0 : Heap} {l : List Oper} {Lr : Heap} {E : Env} {L : Heap} {Q : Post} {fuel : Nat} {s : Array Bool} {o : Oper} {d : Nat} {G : Bool} {v : Value}
/-- 'RH.q', with what it asks for shown at once -/
theorem RH.qa (i : Nat) (ho : l[i]? = some o) (h : QV P n w0 L0 l o E Lr d G v) (k : RH P n w0 L0 l Lr fuel (s.setIfInBounds i true) ((d, G, v) :: E) L Q)
    (hq : ∀ c E L, Q (.panic c) E L → False := by exact fun _ _ _ h => h) (hb : (Region.noSelect l.toArray && Region.free .any l.toArray s i && (Region.ready .any l.toArray s).contains i) = true := by kernel_rfl)
    (hs : Lr.Sublist L := by repeat (first | exact List.nil_sublist _ | exact List.Sublist.refl _ | exact List.sublist_append_left _ _ | exact List.sublist_append_right _ _ | apply List.Sublist.cons_cons | apply List.Sublist.cons | refine List.Sublist.trans ?_ (List.sublist_append_right _ _))) : RH P n w0 L0 l Lr (fuel + 1) s E L Q :=
  RH.q i hq ho hb hs h k
theorem WL.nilQa {all : List Oper} {K : Env → Heap → Prop} (h : K E L) (hs : Lr.Sublist L := by repeat (first | exact List.nil_sublist _ | exact List.Sublist.refl _ | exact List.sublist_append_left _ _ | exact List.sublist_append_right _ _ | apply List.Sublist.cons_cons | apply List.Sublist.cons | refine List.Sublist.trans ?_ (List.sublist_append_right _ _))) : WL P n w0 L0 all [] E L (Qn Q fun E' L' => Lr.Sublist L' ∧ K E' L') := WL.nilQn ⟨hs, h⟩
theorem CW.loopA {c : Code} {X : Type} (F : X → Env) (H : X → Heap) (I : X → Prop) (m : X → Nat) (x0 : X) (hI : I x0)
    (body : ∀ x, I x → CW P n w0 L0 c (F x) (H x) (thenQ (fun E' L' => ∃ y, I y ∧ m y < m x ∧ SubE (F y) E' ∧ (H y).Sublist L') Q)) (hE : SubE (F x0) E := by repeat (first | exact trivial | refine ⟨rfl, ?_⟩ | refine ⟨by (simp only [List.length_set]; rfl), ?_⟩)) (hL : (H x0).Sublist L := by repeat (first | exact List.Sublist.refl _ | exact List.sublist_append_left _ _ | exact List.nil_sublist _ | refine List.Sublist.append (List.Sublist.refl _) ?_ | apply List.Sublist.cons_cons | apply List.Sublist.cons | refine List.Sublist.trans ?_ (List.sublist_append_right _ _))) : CW P n w0 L0 (.loop c) E L Q := CW.loop F H I m x0 hI hE hL body
end
theorem nextA {X : Type} {F : X → Env} {H : X → Heap} {I : X → Prop} {m : X → Nat} {k : Nat} {E' : Env} {L' : Heap} (y : X) (h1 : I y) (h2 : m y < k) (h3 : SubE (F y) E' := by repeat (first | exact trivial | refine ⟨rfl, ?_⟩ | refine ⟨by (simp only [List.length_set]; rfl), ?_⟩)) (h4 : (H y).Sublist L' := by repeat (first | exact List.Sublist.refl _ | exact List.sublist_append_left _ _ | exact List.nil_sublist _ | refine List.Sublist.append (List.Sublist.refl _) ?_ | apply List.Sublist.cons_cons | apply List.Sublist.cons | refine List.Sublist.trans ?_ (List.sublist_append_right _ _))) : ∃ y, I y ∧ m y < k ∧ SubE (F y) E' ∧ (H y).Sublist L' := ⟨y, h1, h2, h3, h4⟩
structure Boxed (K : Prop) : Prop where
  h : K
/-- a walk's plain steps, as many as there are: what is left is 'K' -/
theorem W.go {G K : Prop} (k : K) (h : Boxed K → G := by
  intro hgo
  repeat (first
    | ((with_reducible show WL _ _ _ _ _ (_ :: _) _ _ _); (first
      | ((with_reducible show WL _ _ _ _ _ (⟨some _, .move _, _, _, _, _⟩ :: _) _ _ _); refine W.p O.mv ?_)
      | ((with_reducible show WL _ _ _ _ _ (⟨some _, .fieldAddr _ _ _, _, _, _, _⟩ :: _) _ _ _); (first | refine W.p O.fb ?_ | refine W.p O.fa ?_ | refine W.p O.fe ?_))
      | ((with_reducible show WL _ _ _ _ _ (⟨some _, .assign _, _, _, _, _⟩ :: _) _ _ _); refine W.p O.as ?_)
      | ((with_reducible show WL _ _ _ _ _ (⟨some _, .load _ _, _, _, _, _⟩ :: _) _ _ _); (first | refine W.p O.ld ?_ | refine W.p O.ldC ?_ | refine W.p O.lds ?_ | refine W.p O.ldsC ?_ | refine W.p O.ldE ?_ | refine W.p O.ldsE ?_))
      | ((with_reducible show WL _ _ _ _ _ (⟨some _, .pick _ _ _, _, _, _, _⟩ :: _) _ _ _); refine W.p O.pkB ?_)
      | ((with_reducible show WL _ _ _ _ _ (⟨some _, .nilCheck _, _, _, _, _⟩ :: _) _ _ _); refine W.p O.nc ?_)
      | ((with_reducible show WL _ _ _ _ _ (⟨some _, .extract _ _, _, _, _, _⟩ :: _) _ _ _); (first | refine W.p O.extL ?_ | refine W.p O.ext ?_))
      | ((with_reducible show WL _ _ _ _ _ (⟨some _, .binOp .eql _ _ _ _, _, _, _, _⟩ :: _) _ _ _); (first | refine W.p O.eqI ?_ | refine W.p O.eqS ?_ | refine W.p O.eqT ?_))
      | ((with_reducible show WL _ _ _ _ _ (⟨some _, .binOp .neq _ _ _ _, _, _, _, _⟩ :: _) _ _ _); (first | refine W.p O.neI ?_ | refine W.p O.neS ?_))
      | ((with_reducible show WL _ _ _ _ _ (⟨some _, .binOp .add _ _ _ _, _, _, _, _⟩ :: _) _ _ _); (first | refine W.p O.addN ?_ | refine W.p O.add ?_ | refine W.p O.addS ?_))
      | ((with_reducible show WL _ _ _ _ _ (⟨some _, .unOp .not _ _, _, _, _, _⟩ :: _) _ _ _); refine W.p O.nt ?_)
      | ((with_reducible show WL _ _ _ _ _ (⟨some _, .binOp .lss _ _ _ _, _, _, _, _⟩ :: _) _ _ _); refine W.p O.lss ?_)
      | ((with_reducible show WL _ _ _ _ _ (⟨some _, .binOp .leq _ _ _ _, _, _, _, _⟩ :: _) _ _ _); refine W.p O.leq ?_)
      | ((with_reducible show WL _ _ _ _ _ (⟨some _, .binOp .gtr _ _ _ _, _, _, _, _⟩ :: _) _ _ _); refine W.p O.gtr ?_)
      | ((with_reducible show WL _ _ _ _ _ (⟨some _, .binOp .geq _ _ _ _, _, _, _, _⟩ :: _) _ _ _); refine W.p O.geq ?_)
      | ((with_reducible show WL _ _ _ _ _ (⟨some _, .call ⟨.builtin .len, _, _⟩, _, _, _, _⟩ :: _) _ _ _); (first | refine W.p O.lenL ?_ | refine W.p O.len ?_))
      | ((with_reducible show WL _ _ _ _ _ (⟨some _, .indexAddr _ _ _, _, _, _, _⟩ :: _) _ _ _); refine W.p O.ixA ?_)
      | ((with_reducible show WL _ _ _ _ _ (⟨some _, .binOp .sub _ _ _ _, _, _, _, _⟩ :: _) _ _ _); (first | refine W.p O.subN ?_ | refine W.p O.sub ?_))))
    | ((with_reducible show WL _ _ _ _ _ [] _ _ _); refine WL.nil ?_)
    | ((with_reducible show WL _ _ _ _ _ (List.append _ _) _ _ _); show WL _ _ _ _ _ (_ :: _) _ _ _)
    | ((with_reducible show CW _ _ _ _ _ _ _ _); (first
      | ((with_reducible show CW _ _ _ _ (.seq _ _) _ _ _); refine CW.seq ?_)
      | ((with_reducible show CW _ _ _ _ (.region _ _ _) _ _ _); refine CW.region ?_)
      | ((with_reducible show CW _ _ _ _ .skip _ _ _); refine CW.skip ?_)
      | ((with_reducible show CW _ _ _ _ (.block _ _) _ _ _); refine CW.block ?_)
      | ((with_reducible show CW _ _ _ _ .ret _ _ _); refine CW.ret ?_)
      | ((with_reducible show CW _ _ _ _ (.exit _) _ _ _); refine CW.exit ?_)))
    | ((with_reducible show thenQ _ _ .normal _ _); refine Q.tn ?_)
    | ((with_reducible show blockQ _ _ .normal _ _); refine Q.bn ?_)
    | ((with_reducible show thenQ _ _ .ret _ _); refine Q.tr ?_)
    | ((with_reducible show blockQ _ _ .ret _ _); refine Q.br ?_)
    | ((with_reducible show thenQ _ _ (.exit _) _ _); refine Q.te ?_)
    | ((with_reducible show blockQ _ _ (.exit _) _ _); refine Q.bx ?_))
  exact hgo.h) : G := h ⟨k⟩
end Go.Proofs.YtfmdaijkgjkmpaaGreatDoor
