/- Maps that are owned. No condition. -/
import Derived.Test.YtkjcmdgideddnaaBe
import Derived.MapKept
set_option linter.unusedVariables false
set_option linter.unusedSimpArgs false
namespace Go.Proofs.Ytkjcmdgideddnaa
open Go Go.RowKit Go.MapKept
set_option linter.unusedSectionVars false
section
variable {κ β : Type} [DecidableEq κ] {ek : κ → Value} {ev : β → Value}
def ments (ek : κ → Value) (ev : β → Value) : List (κ × β) → Nat → List MapEntry
  | [], _ => []
  | (k, v) :: r, i => ⟨ek k, ev v, i⟩ :: ments ek ev r (i + 1)
def mfind (k : κ) : List (κ × β) → Option (Nat × β)
  | [] => none
  | (k', v) :: r => if k = k' then some (0, v) else (mfind k r).map fun x => (x.1 + 1, x.2)
def mput (l : List (κ × β)) (k : κ) (v : β) : List (κ × β) := match mfind k l with | some (i, _) => l.set i (k, v) | none => l ++ [(k, v)]
def mget (l : List (κ × β)) (k : κ) : Option β := (mfind k l).map (·.2)
theorem mfind_set {k : κ} {v : β} : ∀ {l : List (κ × β)} {i : Nat} {u : β}, mfind k l = some (i, u) → ∀ k', mget (l.set i (k, v)) k' = if k' = k then some v else mget l k'
  | [], _, _, h, _ => by simp [mfind] at h
  | (k0, v0) :: r, i, u, h, k' => by
    simp only [mfind] at h
    split at h
    · rename_i e
      simp only [Option.some.injEq, Prod.mk.injEq] at h
      obtain ⟨rfl, rfl⟩ := h
      subst e
      simp only [List.set_cons_zero, mget, mfind]
      by_cases e : k' = k <;> simp [e]
    · rename_i e
      cases hf : mfind k r with
      | none => simp [hf] at h
      | some q =>
        simp only [hf, Option.map_some, Option.some.injEq, Prod.mk.injEq] at h
        obtain ⟨rfl, rfl⟩ := h
        have ih := mfind_set (v := v) hf k'
        simp only [mget] at ih
        simp only [List.set_cons_succ, mget, mfind]
        by_cases e' : k' = k0
        · have : k' ≠ k := fun x => e (x ▸ e')
          subst e'; simp [this]
        · simp only [e', if_false, Option.map_map]
          exact ih
theorem mfind_none_app {k k' : κ} {v : β} : ∀ {l : List (κ × β)}, mfind k l = none → mget (l ++ [(k, v)]) k' = if k' = k then some v else mget l k'
  | [], _ => by simp only [List.nil_append, mget, mfind]; by_cases e : k' = k <;> simp [e]
  | (k0, v0) :: r, h => by
    simp only [mfind] at h
    split at h
    · cases h
    · rename_i e
      have h' : mfind k r = none := by simpa using h
      have ih := mfind_none_app (k' := k') (v := v) h'
      simp only [mget] at ih
      simp only [List.cons_append, mget, mfind]
      by_cases e' : k' = k0
      · have : k' ≠ k := fun x => e (x ▸ e')
        subst e'
        simp [this]
      · simp only [e', if_false, Option.map_map]
        exact ih
theorem mget_mput (l : List (κ × β)) (k k' : κ) (v : β) : mget (mput l k v) k' = if k' = k then some v else mget l k' := by
  unfold mput
  cases h : mfind k l with
  | none => exact mfind_none_app h
  | some q => obtain ⟨i, u⟩ := q; exact mfind_set h k'
theorem mget_nil (k : κ) : mget ([] : List (κ × β)) k = none := rfl
theorem ments_app : ∀ (l : List (κ × β)) (k : κ) (v : β) (i : Nat), ments ek ev (l ++ [(k, v)]) i = ments ek ev l i ++ [⟨ek k, ev v, i + l.length⟩]
  | [], _, _, _ => rfl
  | (k0, v0) :: r, k, v, i => by simp only [List.cons_append, ments, ments_app r, List.length_cons]; simp; omega
theorem ments_set : ∀ (l : List (κ × β)) (k : κ) (v : β) (i j : Nat), (ments ek ev l i).modify j (fun e => { e with key := ek k, val := ev v }) = ments ek ev (l.set j (k, v)) i
  | [], _, _, _, j => by cases j <;> rfl
  | (k0, v0) :: r, k, v, i, 0 => rfl
  | (k0, v0) :: r, k, v, i, j + 1 => by simp only [ments, List.modify_succ_cons, List.set_cons_succ, ments_set r]
theorem ments_get : ∀ (l : List (κ × β)) (k : κ) (i j : Nat) (v : β), mfind k l = some (j, v) → ∃ e, (ments ek ev l i)[j]? = some e ∧ e.key = ek k
  | [], _, _, _, _, h => by simp [mfind] at h
  | (k0, v0) :: r, k, i, j, v, h => by
    simp only [mfind] at h
    split at h
    · rename_i e; simp only [Option.some.injEq, Prod.mk.injEq] at h; obtain ⟨rfl, rfl⟩ := h; exact ⟨_, rfl, by rw [e]⟩
    · cases hf : mfind k r with
      | none => simp [hf] at h
      | some q =>
        simp only [hf, Option.map_some, Option.some.injEq, Prod.mk.injEq] at h
        obtain ⟨rfl, rfl⟩ := h
        obtain ⟨e, h1, h2⟩ := ments_get r k (i + 1) q.1 q.2 hf
        exact ⟨e, by simpa [ments] using h1, h2⟩
class KeyEnc (P : Program) (K : TypeId) (ek : κ → Value) : Prop where
  chk : ∀ (e : Bool) (x : κ) (w : World), (Instr.checkKey e 10000 K (ek x)).run P w = .ok () w
  find : ∀ (β : Type) (ev : β → Value) (x : κ) (l : List (κ × β)) (w : World), (Instr.findKey K (ek x) (ments ek ev l 0)).run P w = .ok ((mfind x l).map fun r => (r.1, ev r.2)) w
  bits : ∀ x, Instr.sameBits 10000 (ek x) (ek x) = true
theorem find_ents {d : TypeDesc} (hs : ∀ x y : κ, Instr.sameNow d (ek x) (ek y) = some (decide (x = y))) (k : κ) : ∀ (l : List (κ × β)) (n i : Nat), Instr.findNow d (ek k) (ments ek ev l n) i = some ((mfind k l).map fun x => (i + x.1, ev x.2))
  | [], _, _ => rfl
  | (k', v) :: r, n, i => by
    simp only [ments, Instr.findNow, hs, mfind]
    by_cases h : k = k'
    · simp [h]
    · simp only [h, decide_false, if_false, find_ents hs k r (n + 1) (i + 1), Option.map_map]
      congr 2; funext x; simp; omega
theorem KeyEnc.of {P : Program} {K : TypeId} {d : TypeDesc} (hK : P.underlying K = some d) (hk : ∀ x, IsKey d (ek x)) (hs : ∀ x y : κ, Instr.sameNow d (ek x) (ek y) = some (decide (x = y))) (hb : ∀ x, Instr.sameBits 10000 (ek x) (ek x) = true) : KeyEnc P K ek :=
  ⟨fun e x w => Go.MapKept.run_checkKey hK (hk x) e 9999, fun β ev x l w => by
    have := Go.MapKept.run_findKey (P := P) (w := w) hK (find_ents (ev := ev) hs x l 0 0)
    simpa using this, hb⟩
end
abbrev kI : Int → Value := fun i => .int .i64 i
abbrev kS : List UInt8 → Value := fun s => .string (S s)
abbrev kT : List UInt8 → Value := fun s => .agg [.string (S s)].toArray
abbrev vB : Bool → Value := fun b => .bool b
instance {P : Program} {K : TypeId} [h : TInt P K .i64] : KeyEnc P K kI := KeyEnc.of h.h (fun x => rfl) (fun x y => by simp [Instr.sameNow, beq_dec]) (fun x => by simp [Instr.sameBits])
theorem S_beq (x y : List UInt8) : (S x == S y) = decide (x = y) := by
  have e : (S x == S y) = ((S x).data == (S y).data) := rfl
  rw [e, beq_dec]; simp [S]
instance {P : Program} {K : TypeId} [h : TStr P K] : KeyEnc P K kS := KeyEnc.of h.h (fun x => trivial) (fun x y => by simp only [Instr.sameNow, S_beq]) (fun x => by simp [Instr.sameBits, S_beq])
/-- a struct of one text as a key -/
class TSpot (P : Program) (K : TypeId) : Prop where
  f : ∃ f : Field, P.underlying K = some (.struct #[f]) ∧ f.offset = 0 ∧ P.underlying f.type = some .string
instance {P : Program} {K : TypeId} [h : TSpot P K] [hf : TFlat P K [.s]] : KeyEnc P K kT := ⟨fun e x w => by
    obtain ⟨f, h1, h2, h3⟩ := h.f
    have ha : aggB P f.type = some false := by simp [aggB, h3]
    have hp := part_one (P := P) (w := w) (xs0 := [Value.string (S x)]) (i := 0) ha rfl
    have hc : (Instr.checkKey e (9998 + 1) f.type (.string (S x))).run P w = .ok () w := Go.MapKept.run_checkKey (k := .string (S x)) h3 trivial e 9998
    show (Instr.checkKey e (9999 + 1) K (.agg [Value.string (S x)].toArray)).run P w = _
    unfold Instr.checkKey
    rw [Sem.run_bind, run_underlying h1]
    simp only [Result.andThen_ok]
    simp [Sem.run_bind, h2, hp, hc]
    , fun β ev x l w => by
    obtain ⟨f, h1, h2, h3⟩ := h.f
    have heq : ∀ (x y : List UInt8), (Op.equal K (kT x) (kT y)).run P w = .ok (decide (x = y)) w := fun x y => run_equal_flat (P := P) (T := K) (ks := [.s]) (by simp [eqK])
    have ask : ∀ (l : List (List UInt8 × β)) (n i : Nat), (Instr.findAsking K (kT x) (ments kT ev l n) i).run P w = .ok ((mfind x l).map fun r => (i + r.1, ev r.2)) w := by
      intro l
      induction l with
      | nil => intro n i; simp [ments, Instr.findAsking, mfind]
      | cons p r ih =>
        obtain ⟨k', v⟩ := p
        intro n i
        simp only [ments, Instr.findAsking, Sem.run_bind, heq, Result.andThen_ok, mfind]
        by_cases e : x = k'
        · simp [e]
        · simp only [e, decide_false, if_false, Bool.false_eq_true, ih, Option.map_map]
          congr 2; funext x; simp; omega
    unfold Instr.findKey
    rw [Sem.run_bind, run_underlying h1]
    simp only [Result.andThen_ok]
    cases l with
    | nil => simp [ments, Instr.findNow, mfind]
    | cons p r =>
      have e : Instr.findNow (.struct #[f]) (kT x) (ments kT ev (p :: r) 0) 0 = none := by obtain ⟨a, b⟩ := p; rfl
      rw [e]
      have := ask (p :: r) 0 0
      simpa using this, fun x => by simp [Instr.sameBits, S_beq]⟩
section
variable {κ β : Type} [DecidableEq κ] {ek : κ → Value} {ev : β → Value}
abbrev mObj (ek : κ → Value) (ev : β → Value) (l : List (κ × β)) : Obj := .map (ments ek ev l 0).toArray l.length
variable {P : Program} {d n : Nat} {w0 w : World} {L0 L L' : Heap} {all rest : List Oper} {E : Env} {Q : Post} {x y z : Operand} {T K U ty : TypeId} {pos : String} {aft : Array Edge} {g : Option (Nat × Bool)} {G : Bool}
theorem W.mm (ek : κ → Value) (ev : β → Value) [TMap P T K U] (hn : Nat.blt d n = true)
    (k : ∀ b, WL P n w0 L0 all rest ((d, true, .map (some b)) :: E) ((b, mObj ek ev []) :: L) Q) : WL P n w0 L0 all (⟨some d, .makeMap T none, ty, pos, aft, none⟩ :: rest) E L Q :=
  W.new (v := fun b => .map (some b)) rfl rfl hn (fun a w ha _ => by
    have : (Instr.makeMap T none).run P w = .ok (.map (some w.heap.size)) (w.alloc (.map #[] 0)) := by simp [Instr.makeMap, Result.andThen]
    simp [execOp, Sem.run_bind, this, mObj, ments]) k
theorem run_look {l : List (κ × β)} {k : κ} {b : Nat} {w : World} {zv : Value} {ok : Bool} (dz : β) [hT : TMap P T K U] [hK : KeyEnc P K ek] [hZ : TZero P U zv] (hb : w.heap[b]? = some (mObj ek ev l)) (hz : zv = ev dz) :
    (Instr.lookup T (.map (some b)) (ek k) ok).run P w = .ok (if ok then .tuple #[ev ((mget l k).getD dz), .bool (mget l k).isSome] else ev ((mget l k).getD dz)) w := by
  have h1 := Go.MapKept.run_getObj_map (P := P) (w := w) hb
  have h2 := fun e => hK.chk e k w
  have h3 := hK.find β ev k l w
  have h4 := hZ.run (P := P) (T := U) w
  subst hz
  cases hf : mfind k l with
  | none => cases ok <;> simp [Instr.lookup, Sem.run_bind, run_underlying hT.h, h1, h2, h3, h4, hf, mget]
  | some r => cases ok <;> simp [Instr.lookup, Sem.run_bind, run_underlying hT.h, h1, h2, h3, h4, hf, mget]
theorem O.lk {l : List (κ × β)} {k : κ} {b : Nat} {zv : Value} (dz : β) [hT : TMap P T K U] [hK : KeyEnc P K ek] [hZ : TZero P U zv] (hp : Pre n all E g d G := by exact ⟨rfl, rfl⟩) (hx : Val G E x (.map (some b)) := by first | exact vt rfl | exact vs rfl) [hb : Blk L b (mObj ek ev l)] (hy : Val G E y (ek k) := by first | exact vt rfl | exact vs rfl) (hz : zv = ev dz := by rfl) :
    QV P n w0 L0 all ⟨some d, .lookup T x y false, ty, pos, aft, g⟩ E L d G (ev ((mget l k).getD dz)) :=
  O.val rfl hp (fun hG a w ha hw => by
    have := run_look (P := P) (T := T) (K := K) (U := U) (ok := false) dz (hw.has _ hb.h) (k := k) hz
    simp only [execOp, hx.eval hG ha, hy.eval hG ha]
    simp [Sem.run_bind, this])
theorem O.lkT {l : List (κ × β)} {k : κ} {b : Nat} {zv : Value} (dz : β) [hT : TMap P T K U] [hK : KeyEnc P K ek] [hZ : TZero P U zv] (hp : Pre n all E g d G := by exact ⟨rfl, rfl⟩) (hx : Val G E x (.map (some b)) := by first | exact vt rfl | exact vs rfl) [hb : Blk L b (mObj ek ev l)] (hy : Val G E y (ek k) := by first | exact vt rfl | exact vs rfl) (hz : zv = ev dz := by rfl) :
    QV P n w0 L0 all ⟨some d, .lookup T x y true, ty, pos, aft, g⟩ E L d G (.tuple #[ev ((mget l k).getD dz), .bool (mget l k).isSome]) :=
  O.val rfl hp (fun hG a w ha hw => by
    have := run_look (P := P) (T := T) (K := K) (U := U) (ok := true) dz (hw.has _ hb.h) (k := k) hz
    simp only [execOp, hx.eval hG ha, hy.eval hG ha]
    simp [Sem.run_bind, this])
/-- a block turned -/
theorem Upd.set {w0 w : World} {L0 L L' : Heap} (h : Upd w0 L0 w L) {b : Nat} {o o' : Obj} (hr : Rep L b o o' L') : Upd w0 L0 { w with heap := w.heap.setIfInBounds b o' } L' := by
  obtain ⟨A, B, rfl, rfl⟩ := hr.h
  have hb : w.heap[b]? = some o := h.has (b, _) (by simp)
  have hlt : b < w.heap.size := (Array.getElem?_eq_some_iff.1 hb).1
  have hnd := h.nd
  simp only [List.map_append, List.map_cons] at hnd
  rw [List.nodup_append] at hnd
  simp only [List.nodup_cons] at hnd
  have hA : ∀ p ∈ A, p.1 ≠ b := fun p hp e => hnd.2.2 p.1 (List.mem_map_of_mem hp) b (by simp) e
  have hB : ∀ p ∈ B, p.1 ≠ b := fun p hp e => hnd.2.1.1 (e ▸ List.mem_map_of_mem hp)
  have oth : ∀ k, k ≠ b → (w.heap.setIfInBounds b o')[k]? = w.heap[k]? := fun k hk => by simp [Array.getElem?_setIfInBounds, Ne.symm hk]
  refine ⟨h.os, h.tape, h.output, by simpa using h.size, ?_, ?_, ?_, ?_⟩
  · intro k hk hn
    show (w.heap.setIfInBounds b o')[k]? = _
    rw [oth k (fun e => ?_)]
    · exact h.old k hk hn
    · subst e
      rcases h.own (k, _) (by simp : (k, o) ∈ A ++ (k, o) :: B) with hm | hm
      · exact hn hm
      · exact absurd hk (by simp at hm; omega)
  · intro p hp
    show (w.heap.setIfInBounds b o')[p.1]? = _
    rcases List.mem_append.1 hp with hp | hp
    · rw [oth p.1 (hA p hp)]; exact h.has p (by simp [hp])
    · rcases List.mem_cons.1 hp with rfl | hp
      · simp [Array.getElem?_setIfInBounds, hlt]
      · rw [oth p.1 (hB p hp)]; exact h.has p (by simp [hp])
  · intro p hp
    rcases List.mem_append.1 hp with hp | hp
    · exact h.own p (by simp [hp])
    · rcases List.mem_cons.1 hp with rfl | hp
      · exact h.own (b, o) (by simp)
      · exact h.own p (by simp [hp])
  · have := h.nd
    simpa using this
theorem run_upd {l : List (κ × β)} {k : κ} {v : β} {b : Nat} {w : World} [hT : TMap P T K U] [hK : KeyEnc P K ek] (hb : w.heap[b]? = some (mObj ek ev l)) :
    (Instr.mapUpdate T (.map (some b)) (ek k) (ev v)).run P w = .ok () { w with heap := w.heap.setIfInBounds b (mObj ek ev (mput l k v)) } := by
  have h1 := Go.MapKept.run_getObj_map (P := P) (w := w) hb
  have h2 := fun e => hK.chk e k w
  have h3 := hK.find β ev k l w
  have h4 := fun o => Go.MapKept.run_setObj_map (P := P) (w := w) o hb
  cases hf : mfind k l with
  | none => simp [Instr.mapUpdate, Sem.run_bind, run_underlying hT.h, h1, h2, h3, h4, hf, mput, mObj, ments_app]
  | some r =>
    obtain ⟨j, u⟩ := r
    obtain ⟨e, g1, g2⟩ := ments_get (ek := ek) (ev := ev) l k 0 j u hf
    have hs : (Instr.keyThatStays (ek k) (ek k)).run P w = .ok (ek k) w := by simp [Instr.keyThatStays, hK.bits]
    simp [Instr.mapUpdate, Sem.run_bind, run_underlying hT.h, h1, h2, h3, h4, hf, mput, mObj, g1, g2, hs, ments_set]
theorem W.mu {l : List (κ × β)} {k : κ} {v : β} {b : Nat} [hT : TMap P T K U] [hK : KeyEnc P K ek] (hx : Val true E x (.map (some b))) [hb : Blk L b (mObj ek ev l)] (hy : Val true E y (ek k)) (hz : Val true E z (ev v)) [hr : Rep L b (mObj ek ev l) (mObj ek ev (mput l k v)) L']
    (kk : WL P n w0 L0 all rest E L' Q) : WL P n w0 L0 all (⟨none, .mapUpdate T x y z, ty, pos, aft, none⟩ :: rest) E L Q :=
  W.skp (w' := fun w => { w with heap := w.heap.setIfInBounds b (mObj ek ev (mput l k v)) }) rfl rfl (fun a w ha hw => by
    have := run_upd (P := P) (T := T) (K := K) (U := U) (k := k) (v := v) (hw.has _ hb.h)
    refine ⟨?_, hw.set hr⟩
    simp only [execOp, hx.eval rfl ha, hy.eval rfl ha, hz.eval rfl ha]
    simp [Sem.run_bind, this]) kk
end
end Go.Proofs.Ytkjcmdgideddnaa
