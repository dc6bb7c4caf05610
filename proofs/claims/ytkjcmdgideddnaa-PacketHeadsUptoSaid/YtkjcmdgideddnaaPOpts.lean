/- Plain laws (POpts): lists and numbers alone. No condition. -/

set_option linter.unusedVariables false
set_option linter.unusedSimpArgs false
namespace Go.Proofs.Ytkjcmdgideddnaa
structure Opt where
  code : Int
  data : List UInt8
deriving DecidableEq
def optOk (o : Opt) : Bool := decide (1 ≤ o.code) && decide (o.code ≤ 254) && decide (o.data.length ≤ 512)
def nodupC : List Opt → Bool
  | [] => true
  | o :: r => !(r.any fun p => decide (p.code = o.code)) && nodupC r
def optsMay (os : List Opt) : Bool := os.all optOk && nodupC os && decide (os.length ≤ 32)
def chunksF : Nat → UInt8 → List UInt8 → List UInt8
  | 0, c, d => [c, UInt8.ofNat d.length] ++ d
  | n + 1, c, d => if d.length ≤ 255 then [c, UInt8.ofNat d.length] ++ d else [c, 255] ++ d.take 255 ++ chunksF n c (d.drop 255)
theorem chunksF_more (c : UInt8) : ∀ (n m : Nat) (d : List UInt8), d.length ≤ n → d.length ≤ m → chunksF n c d = chunksF m c d
  | 0, 0, _, _, _ => rfl
  | 0, m + 1, d, h, _ => by
    have : d = [] := List.eq_nil_of_length_eq_zero (by omega)
    subst this; rfl
  | n + 1, 0, d, _, h => by
    have : d = [] := List.eq_nil_of_length_eq_zero (by omega)
    subst this; rfl
  | n + 1, m + 1, d, h1, h2 => by
    simp only [chunksF]
    split
    · rfl
    · rw [chunksF_more c n m _ (by simp; omega) (by simp; omega)]
def chunks (c : UInt8) (d : List UInt8) : List UInt8 := chunksF d.length c d
theorem chunks_short {c : UInt8} {d : List UInt8} (h : d.length ≤ 255) : chunks c d = c :: UInt8.ofNat d.length :: d := by
  unfold chunks
  cases hl : d.length with
  | zero => simp only [chunksF, hl]; rfl
  | succ n => simp only [chunksF, hl]; rw [if_pos (by omega)]; rfl
theorem chunks_long {c : UInt8} {d : List UInt8} (h : 255 < d.length) : chunks c d = c :: 255 :: d.take 255 ++ chunks c (d.drop 255) := by
  unfold chunks
  cases hl : d.length with
  | zero => omega
  | succ n =>
    simp only [chunksF]
    rw [if_neg (by omega), chunksF_more c n (d.drop 255).length _ (by simp; omega) (Nat.le_refl _)]
    rfl
def putOpts (os : List Opt) : List UInt8 := os.flatMap (fun o => chunks (UInt8.ofNat o.code.toNat) o.data) ++ [255]
/-- pieces as they stand: none: one is not whole -/
def piecesF : Nat → List UInt8 → Option (List Opt)
  | _, [] => some []
  | 0, _ => none
  | n + 1, c :: r => if c = 255 then some [] else if c = 0 then piecesF n r else
    match r with
    | [] => none
    | k :: t => if k.toNat ≤ t.length then (piecesF n (t.drop k.toNat)).map (⟨(c.toNat : Int), t.take k.toNat⟩ :: ·) else none
def pieces (s : List UInt8) : Option (List Opt) := piecesF s.length s
theorem piecesF_more : ∀ (n m : Nat) (s : List UInt8), s.length ≤ n → s.length ≤ m → piecesF n s = piecesF m s
  | n, m, [], _, _ => by cases n <;> cases m <;> rfl
  | 0, _, _ :: _, h, _ => by simp at h
  | _, 0, _ :: _, _, h => by simp at h
  | n + 1, m + 1, c :: r, h1, h2 => by
    simp only [List.length_cons] at h1 h2
    simp only [piecesF]
    rw [piecesF_more n m r (by omega) (by omega)]
    cases r with
    | nil => rfl
    | cons k t =>
      simp only [List.length_cons] at h1 h2
      simp only
      rw [piecesF_more n m (t.drop k.toNat) (by simp; omega) (by simp; omega)]
theorem pieces_nil : pieces [] = some [] := rfl
theorem pieces_end (r : List UInt8) : pieces (255 :: r) = some [] := by simp [pieces, piecesF]
theorem pieces_pad (r : List UInt8) : pieces (0 :: r) = pieces r := by
  simp only [pieces, List.length_cons, piecesF]
  rfl
theorem pieces_one {c : UInt8} (h1 : c ≠ 255) (h2 : c ≠ 0) : pieces [c] = none := by simp [pieces, piecesF, h1, h2]
theorem pieces_cons {c k : UInt8} {t : List UInt8} (h1 : c ≠ 255) (h2 : c ≠ 0) : pieces (c :: k :: t) = if k.toNat ≤ t.length then (pieces (t.drop k.toNat)).map (⟨(c.toNat : Int), t.take k.toNat⟩ :: ·) else none := by
  simp only [pieces, List.length_cons, piecesF, if_neg h1, if_neg h2]
  rw [piecesF_more (t.length + 1) (t.drop k.toNat).length _ (by simp; omega) (Nat.le_refl _)]
/-- data of one code are one option's -/
def join1 : List Opt → Opt → List Opt
  | [], o => [o]
  | p :: r, o => if p.code = o.code then ⟨p.code, p.data ++ o.data⟩ :: r else p :: join1 r o
def joinAll (os ps : List Opt) : List Opt := ps.foldl join1 os
def getOpts (s : List UInt8) : Option (List Opt) :=
  match pieces s with
  | none => none
  | some ps => if optsMay (joinAll [] ps) then some (joinAll [] ps) else none
def findOpt (os : List Opt) (c : Int) : Option (List UInt8) := (os.find? fun o => decide (o.code = c)).map (·.data)
/-! ## back -/
theorem join1_fresh : ∀ (os : List Opt) (o : Opt), (os.any fun p => decide (p.code = o.code)) = false → join1 os o = os ++ [o]
  | [], _, _ => rfl
  | p :: r, o, h => by
    simp only [List.any_cons, Bool.or_eq_false_iff, decide_eq_false_iff_not] at h
    simp only [join1, if_neg h.1, List.cons_append, join1_fresh r o h.2]
theorem join1_last : ∀ (os : List Opt) (c : Int) (d e : List UInt8), (os.any fun p => decide (p.code = c)) = false → join1 (os ++ [⟨c, d⟩]) ⟨c, e⟩ = os ++ [⟨c, d ++ e⟩]
  | [], c, d, e, _ => by simp [join1]
  | p :: r, c, d, e, h => by
    simp only [List.any_cons, Bool.or_eq_false_iff, decide_eq_false_iff_not] at h
    simp only [List.cons_append, join1, if_neg h.1, join1_last r c d e h.2]
theorem ofNat_code {c : Int} (h1 : 1 ≤ c) (h2 : c ≤ 254) : UInt8.ofNat c.toNat ≠ 255 ∧ UInt8.ofNat c.toNat ≠ 0 ∧ ((UInt8.ofNat c.toNat).toNat : Int) = c := by
  have hn : (UInt8.ofNat c.toNat).toNat = c.toNat := by simp; omega
  refine ⟨fun e => ?_, fun e => ?_, by omega⟩
  · have := congrArg UInt8.toNat e; rw [hn] at this; simp at this; omega
  · have := congrArg UInt8.toNat e; rw [hn] at this; simp at this; omega
theorem pieces_chunks {c : Int} (h1 : 1 ≤ c) (h2 : c ≤ 254) : ∀ (n : Nat) (d rest : List UInt8), d.length ≤ n →
    ∃ ps : List Opt, (∀ q, pieces rest = some q → pieces (chunks (UInt8.ofNat c.toNat) d ++ rest) = some (ps ++ q)) ∧
      (∀ (os : List Opt) (d0 : List UInt8), (os.any fun p => decide (p.code = c)) = false → joinAll (os ++ [⟨c, d0⟩]) ps = os ++ [⟨c, d0 ++ d⟩]) ∧
      (∀ (os : List Opt), (os.any fun p => decide (p.code = c)) = false → joinAll os ps = os ++ [⟨c, d⟩]) := by
  obtain ⟨e1, e2, e3⟩ := ofNat_code h1 h2
  intro n
  induction n with
  | zero =>
    intro d rest h
    have : d = [] := List.eq_nil_of_length_eq_zero (by omega)
    subst this
    refine ⟨[⟨c, []⟩], fun q hq => ?_, fun os d0 ho => ?_, fun os ho => ?_⟩
    · rw [chunks_short (by simp)]
      simp only [List.length_nil, List.cons_append, List.nil_append]
      rw [pieces_cons e1 e2, if_pos (by simp)]
      simp only [show (UInt8.ofNat 0).toNat = 0 from rfl, List.drop_zero, List.take_zero, List.drop_left, List.take_left, hq, e3, Option.map_some, List.cons_append, List.nil_append]
    · simp only [joinAll, List.foldl_cons, List.foldl_nil]; rw [join1_last _ _ _ _ ho]
    · simp only [joinAll, List.foldl_cons, List.foldl_nil]; rw [join1_fresh _ _ ho]
  | succ n ih =>
    intro d rest h
    by_cases hs : d.length ≤ 255
    · refine ⟨[⟨c, d⟩], fun q hq => ?_, fun os d0 ho => ?_, fun os ho => ?_⟩
      · rw [chunks_short hs]
        simp only [List.cons_append]
        have hk : (UInt8.ofNat d.length).toNat = d.length := by simp; omega
        rw [pieces_cons e1 e2, hk, if_pos (by simp)]
        simp only [List.drop_left, List.take_left, hq, e3, Option.map_some, List.cons_append, List.nil_append]
      · simp only [joinAll, List.foldl_cons, List.foldl_nil]; rw [join1_last _ _ _ _ ho]
      · simp only [joinAll, List.foldl_cons, List.foldl_nil]; rw [join1_fresh _ _ ho]
    · obtain ⟨ps, a1, a2, a3⟩ := ih (d.drop 255) rest (by simp; omega)
      refine ⟨⟨c, d.take 255⟩ :: ps, fun q hq => ?_, fun os d0 ho => ?_, fun os ho => ?_⟩
      · rw [chunks_long (by omega)]
        have hk : (255 : UInt8).toNat = (d.take 255).length := by simp; omega
        simp only [List.cons_append, List.append_assoc]
        rw [pieces_cons e1 e2, hk, if_pos (by simp)]
        simp only [List.drop_left, List.take_left, a1 q hq, e3, Option.map_some]
      · simp only [joinAll, List.foldl_cons]
        rw [join1_last _ _ _ _ ho]
        have := a2 os (d0 ++ d.take 255) ho
        simp only [joinAll] at this
        rw [this, List.append_assoc, List.take_append_drop]
      · simp only [joinAll, List.foldl_cons]
        rw [join1_fresh _ _ ho]
        have := a2 os (d.take 255) ho
        simp only [joinAll] at this
        rw [this, List.take_append_drop]
theorem any_append_one (os : List Opt) (o : Opt) (c : Int) : ((os ++ [o]).any fun p => decide (p.code = c)) = ((os.any fun p => decide (p.code = c)) || decide (o.code = c)) := by simp
theorem pieces_put : ∀ (os : List Opt) (rest : List UInt8), os.all optOk = true → nodupC os = true →
    ∃ ps, (∀ q, pieces rest = some q → pieces (os.flatMap (fun o => chunks (UInt8.ofNat o.code.toNat) o.data) ++ rest) = some (ps ++ q)) ∧
      ∀ acc : List Opt, (∀ o ∈ os, (acc.any fun p => decide (p.code = o.code)) = false) → joinAll acc ps = acc ++ os
  | [], rest, _, _ => ⟨[], fun q hq => by simpa using hq, fun acc _ => by simp [joinAll]⟩
  | o :: r, rest, h1, h2 => by
    simp only [List.all_cons, Bool.and_eq_true, optOk, decide_eq_true_eq] at h1
    simp only [nodupC, Bool.and_eq_true, Bool.not_eq_true'] at h2
    obtain ⟨ps, b1, b2⟩ := pieces_put r rest (by have := h1.2; simpa [optOk] using this) h2.2
    obtain ⟨qs, a1, _, a3⟩ := pieces_chunks h1.1.1.1 h1.1.1.2 o.data.length o.data (r.flatMap (fun o => chunks (UInt8.ofNat o.code.toNat) o.data) ++ rest) (Nat.le_refl _)
    refine ⟨qs ++ ps, fun q hq => ?_, fun acc ha => ?_⟩
    · rw [List.flatMap_cons, List.append_assoc, a1 _ (b1 q hq), List.append_assoc]
    · unfold joinAll at *
      rw [List.foldl_append, a3 acc (ha o (by simp)), b2]
      · simp
      · intro p hp
        have h3 : ¬ o.code = p.code := fun e => by
          have := List.any_eq_false.1 h2.1 p hp
          simp [e] at this
        rw [any_append_one, ha p (by simp [hp])]
        simp [h3]
theorem pieces_pads (n : Nat) (s : List UInt8) : pieces (List.replicate n 0 ++ s) = pieces s := by
  induction n with
  | zero => rfl
  | succ n ih => rw [List.replicate_succ, List.cons_append, pieces_pad, ih]
theorem get_put {os : List Opt} (h : optsMay os = true) (n : Nat) (behind : List UInt8) : getOpts (List.replicate n 0 ++ putOpts os ++ behind) = some os := by
  have hm := h
  simp only [optsMay, Bool.and_eq_true] at h
  obtain ⟨ps, a, b⟩ := pieces_put os ([255] ++ behind) h.1.1 h.1.2
  have e := a [] (pieces_end behind)
  unfold getOpts
  rw [List.append_assoc, pieces_pads, putOpts, List.append_assoc, e, List.append_nil]
  have := b [] (fun o _ => rfl)
  simp only [this, List.nil_append, hm, if_true]

end Go.Proofs.Ytkjcmdgideddnaa
