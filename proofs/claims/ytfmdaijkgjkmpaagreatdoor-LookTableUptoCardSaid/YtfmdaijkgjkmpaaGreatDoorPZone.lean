/- Several texts in one (PZone). Their conditions are their own. -/
import Derived.Test.YtfmdaijkgjkmpaaGreatDoorLaw0
import Derived.Test.YtfmdaijkgjkmpaaGreatDoorPRL
import Derived.Lib.Bytealg
set_option linter.unusedVariables false
set_option linter.unusedSimpArgs false
namespace Go.Proofs.YtfmdaijkgjkmpaaGreatDoor
open Go Go.RowKit
structure Rs where
  client : List UInt8
  host : Int
deriving DecidableEq
structure Cf where
  first : Int
  last : Int
  excl : List Int
  resv : List Rs
  time : Int
  zone : List UInt8
  stat : List RR
deriving DecidableEq
structure Lz where
  host : Int
  state : Int
  client : List UInt8
  til : Int
  name : List UInt8
  won : Bool
deriving DecidableEq
def inZ (x f t : Int) : Bool := decide (f ≤ x) && decide (x ≤ t)
def clMay (s : List UInt8) : Bool := decide (1 ≤ s.length) && decide (s.length ≤ 16)
def endsB (s t : List UInt8) : Bool := decide (t.length ≤ s.length) && decide (s.drop (s.length - t.length) = t)
def under (s z : List UInt8) : Bool := nmMay s && nmMay z && (decide (z = []) || decide (s = z) || endsB s (46 :: z))
def hostsOk (f l : Int) (all : List Int) (k : Nat) : Bool := all.all (fun h => inZ h f l) && decide all.Nodup && decide (all.length ≤ k)
def resOk (c : Cf) : Bool := c.resv.all (fun r => clMay r.client) && decide ((c.resv.map Rs.client).Nodup) && hostsOk c.first c.last (c.resv.map Rs.host) 4
def stMay (z : List UInt8) (r : RR) : Bool := (decide (r.type = 1) || decide (r.type = 5) || decide (r.type = 16)) && rrMay r && under r.name z && !decide (r.name = z)
def stOk (c : Cf) : Bool := c.stat.all (stMay c.zone) && decide (c.stat.length ≤ 8)
def cfMay (c : Cf) : Bool := decide (2 ≤ c.first) && decide (c.first ≤ c.last) && decide (c.last ≤ 254) && decide (c.last - c.first < 8) && !decide (c.zone = []) && nmMay c.zone && decide ((labs c.zone).length ≤ 4) && inZ c.time 1 1048576 && hostsOk c.first c.last c.excl 8 && resOk c && stOk c
def lzSt (l : Lz) : Bool :=
  if l.state = 0 ∨ l.state = 3 then decide (l.name = []) && !l.won
  else if l.state = 1 then !decide (l.client = []) && decide (l.name = []) && !l.won
  else if l.state = 2 then !decide (l.client = []) && (!decide (l.name = []) || !l.won)
  else false
def lzMay (l : Lz) : Bool := inZ l.host 2 254 && lzSt l && decide (l.client.length ≤ 16) && inZ l.til 0 1099511627776 && nmMay l.name
def asc : List Lz → Bool
  | a :: b :: r => decide (a.host < b.host) && asc (b :: r)
  | _ => true
def tbMay (ls : List Lz) : Bool := ls.all lzMay && asc ls && decide (ls.length ≤ 8)
def live (l : Lz) (now : Int) : Bool := lzMay l && !decide (l.state = 0) && decide (now < l.til)
def lbls (s : List UInt8) : List (List UInt8) := if nmMay s = true then labs s else []
def fullN (c : Cf) (h : List UInt8) : List UInt8 := if (lbls h).length = 1 then h ++ 46 :: c.zone else h
def full (c : Cf) (h : List UInt8) : List UInt8 :=
  if cfMay c = true ∧ h ≠ [] ∧ nmMay h = true ∧ fullN c h ≠ c.zone ∧ under (fullN c h) c.zone = true then fullN c h else []
def fnv (s : List UInt8) : Nat := s.foldl (fun h b => ((h ^^^ b.toNat) * 16777619) % 4294967296) 2166136261
def dhcid (cl nm : List UInt8) : List UInt8 := if clMay cl = true ∧ nmMay nm = true then [0, 1, 1] ++ beb (fnv (cl ++ 0 :: nm)) 4 else []
/-- a number from 0 to 999 in its digits -/
def decD (x : Int) : List UInt8 :=
  let n := x.toNat
  (if 100 ≤ n then [UInt8.ofNat (48 + n / 100)] else []) ++ (if 10 ≤ n then [UInt8.ofNat (48 + n / 10 % 10)] else []) ++ [UInt8.ofNat (48 + n % 10)]
def backN : List UInt8 := [46, 48, 46, 48, 46, 49, 48, 46, 105, 110, 45, 97, 100, 100, 114, 46, 97, 114, 112, 97]
def lentR (c : Cf) (l : Lz) : List RR := [⟨full c l.name, 1, 60, 167772160 + l.host, [], [], 0⟩, ⟨full c l.name, 49, 60, 0, [], dhcid l.client (full c l.name), 0⟩, ⟨decD l.host ++ backN, 12, 60, 0, full c l.name, [], 0⟩]
def toldZ (c : Cf) (now : Int) (l : Lz) : Bool := l.won && live l now && decide (l.state = 2) && !decide (full c l.name = [])
def nsN : List UInt8 := [110, 115]
def zHead (c : Cf) (number : Int) : List RR := [⟨c.zone, 6, 60, 0, full c nsN, [], number⟩, ⟨c.zone, 2, 60, 0, full c nsN, [], 0⟩]
def zRecs (c : Cf) (ls : List Lz) (now number : Int) : List RR := zHead c number ++ c.stat ++ (ls.filter (toldZ c now)).flatMap (lentR c)
def zAsk (c : Cf) (ls : List Lz) (now number : Int) : Bool := cfMay c && tbMay ls && inZ now 0 1099511627776 && inZ number 0 4294967295
def zRec (c : Cf) (ls : List Lz) (now number : Int) : List RR × Int := if zAsk c ls now number = true then (zRecs c ls now number, 0) else ([], 2000)
/-! plain laws -/
theorem asc_snoc (d : Lz) : ∀ (l : List Lz) (x : Lz), asc (l ++ [x]) = (asc l && (decide (l = []) || decide ((l.getD (l.length - 1) d).host < x.host)))
  | [], x => rfl
  | [a], x => by simp [asc]
  | a :: b :: r, x => by
    have ih := asc_snoc d (b :: r) x
    simp only [List.cons_append, asc] at ih ⊢
    rw [ih, Bool.and_assoc]
    simp
theorem decD_len (x : Int) : 1 ≤ (decD x).length ∧ (decD x).length ≤ 3 := by
  unfold decD
  dsimp only
  split <;> split <;> simp
/-- a host's number, told the other way round, is a name -/
theorem rev_may : ∀ n : Fin 255, nmMay (decD ((n.val : Nat) : Int) ++ backN) = true := by decide +kernel
theorem rev_may' {h : Int} (h0 : 0 ≤ h) (h1 : h ≤ 254) : nmMay (decD h ++ backN) = true := by
  have := rev_may ⟨h.toNat, by omega⟩
  dsimp only at this
  rwa [Int.toNat_of_nonneg h0] at this
theorem full_may {c : Cf} {h : List UInt8} : nmMay (full c h) = true := by
  unfold full
  split
  · rename_i hc
    have := hc.2.2.2.2
    unfold under at this
    simp only [Bool.and_eq_true] at this
    exact this.1.1
  · rfl
theorem dhcid_len (cl nm : List UInt8) : (dhcid cl nm).length ≤ 7 := by
  unfold dhcid
  split
  · simp [beb_len]
  · simp
/-- each record of a lease that is told may be -/
theorem lent_may {c : Cf} {now : Int} {l : Lz} (h : toldZ c now l = true) : ∀ r ∈ lentR c l, rrMay r = true := by
  simp only [toldZ, live, lzMay, inZ, Bool.and_eq_true, decide_eq_true_eq] at h
  obtain ⟨⟨⟨_, ⟨⟨⟨⟨⟨h1, _⟩, _⟩, _⟩, _⟩, _⟩, _⟩, _⟩, _⟩ := h
  have hf := full_may (c := c) (h := l.name)
  have hd := dhcid_len l.client (full c l.name)
  have hr := rev_may' (h := l.host) (by omega) (by omega)
  intro r hr'
  simp only [lentR, List.mem_cons, List.not_mem_nil, or_false] at hr'
  rcases hr' with rfl | rfl | rfl
  · simp [rrMay, rrBody, word, hf]; omega
  · simp [rrMay, rrBody, isName, hf]; omega
  · simp [rrMay, rrBody, isName, hf, hr]
theorem head_may {c : Cf} (hc : cfMay c = true) {n : Int} (h0 : 0 ≤ n) (h1 : n ≤ 4294967295) : ∀ r ∈ zHead c n, rrMay r = true := by
  simp only [cfMay, Bool.and_eq_true] at hc
  have hz : nmMay c.zone = true := hc.1.1.1.1.1.2
  have hf := full_may (c := c) (h := nsN)
  intro r hr
  simp only [zHead, List.mem_cons, List.not_mem_nil, or_false] at hr
  rcases hr with rfl | rfl
  · simp [rrMay, rrBody, isName, word, hz, hf, h0, h1]
  · simp [rrMay, rrBody, isName, hz, hf]
theorem stat_may {c : Cf} (hc : cfMay c = true) : ∀ r ∈ c.stat, rrMay r = true := by
  simp only [cfMay, stOk, Bool.and_eq_true, List.all_eq_true] at hc
  intro r hr
  have := hc.2.1 r hr
  simp only [stMay, Bool.and_eq_true] at this
  exact this.1.1.2
theorem recs_may {c : Cf} {ls : List Lz} {now n : Int} (h : zAsk c ls now n = true) : ∀ r ∈ zRecs c ls now n, rrMay r = true := by
  simp only [zAsk, Bool.and_eq_true, inZ, decide_eq_true_eq] at h
  intro r hr
  simp only [zRecs, List.mem_append, List.mem_flatMap, List.mem_filter] at hr
  rcases hr with (hr | hr) | ⟨l, ⟨_, hl⟩, hr⟩
  · exact head_may h.1.1.1 h.2.1 h.2.2 r hr
  · exact stat_may h.1.1.1 r hr
  · exact lent_may hl r hr
end Go.Proofs.YtfmdaijkgjkmpaaGreatDoor

set_option linter.unusedVariables false
set_option linter.unusedSimpArgs false
namespace Go.Proofs.YtfmdaijkgjkmpaaGreatDoor
open Go Go.RowKit
def givC : Cf := ⟨10, 13, [12], [⟨[118, 105, 112], 13⟩], 100, [108, 97, 110], [⟨[119, 119, 119, 46, 108, 97, 110], 1, 5, 7, [], [], 0⟩]⟩
/-! a sweep -/
end Go.Proofs.YtfmdaijkgjkmpaaGreatDoor

set_option linter.unusedVariables false
set_option linter.unusedSimpArgs false
namespace Go.Proofs.YtfmdaijkgjkmpaaGreatDoor
open Go Go.RowKit
/-- a text cut at each such byte -/
def spl (q : UInt8) : List UInt8 → List (List UInt8)
  | [] => [[]]
  | c :: r => if c = q then [] :: spl q r else match spl q r with
    | [] => [[c]]
    | l :: ls => (c :: l) :: ls
theorem spl_dot : ∀ s : List UInt8, spl 46 s = split s
  | [] => rfl
  | c :: r => by simp only [spl, split, spl_dot r]; rfl
theorem spl_ne (q : UInt8) (s : List UInt8) : spl q s ≠ [] := by
  cases s with
  | nil => simp [spl]
  | cons c r =>
    simp only [spl]
    split
    · simp
    · split <;> simp
theorem spl_none {q : UInt8} : ∀ (s : List UInt8), q ∉ s → spl q s = [s]
  | [], _ => rfl
  | c :: r, h => by
    simp only [List.mem_cons, not_or] at h
    simp only [spl, if_neg (Ne.symm h.1), spl_none r h.2]
theorem spl_cons {q : UInt8} : ∀ (a r : List UInt8), q ∉ a → spl q (a ++ q :: r) = a :: spl q r
  | [], r, _ => by simp [spl]
  | c :: a, r, h => by
    simp only [List.mem_cons, not_or] at h
    simp only [List.cons_append, spl, if_neg (Ne.symm h.1), spl_cons a r h.2]
theorem spl_count (q : UInt8) : ∀ s : List UInt8, (spl q s).length = s.count q + 1
  | [] => rfl
  | c :: r => by
    have ih := spl_count q r
    have hne := spl_ne q r
    simp only [spl]
    split
    · rename_i h; subst h; simp [ih]
    · rename_i h
      rw [List.count_cons_of_ne h]
      split
      · rename_i e; exact absurd e hne
      · rename_i l ls e; rw [e] at ih; simpa using ih
theorem spl_one {q : UInt8} {s : List UInt8} (h : (spl q s).length = 1) : spl q s = [s] := by
  refine spl_none s fun hm => ?_
  have := spl_count q s
  have h2 : 0 < s.count q := List.count_pos_iff.2 hm
  omega
theorem spl_no {q : UInt8} {s : List UInt8} (h : ixb s q < 0) : spl q s = [s] := spl_none s (ixb_none q h)
theorem spl_at {q : UInt8} {s : List UInt8} (h : 0 ≤ ixb s q) : spl q s = s.take (ixb s q).toNat :: spl q (s.drop (ixb s q + 1).toNat) := by
  obtain ⟨e1, e2⟩ := ixb_some q h
  conv => lhs; rw [e1]
  exact spl_cons _ _ e2
/-- the state of a cutting -/
structure LabI (q : UInt8) (s : List UInt8) (i : Int) (r : List UInt8) (xs : List (List UInt8)) : Prop where
  i0 : 0 ≤ i
  ln : xs.length = (spl q s).length
  eq : spl q s = xs.take i.toNat ++ spl q r
  rl : r.length ≤ s.length
section
variable {q : UInt8} {s r : List UInt8} {i : Int} {xs : List (List UInt8)}
theorem LabI.new (q : UInt8) (s : List UInt8) : LabI q s 0 s (List.replicate (spl q s).length []) := ⟨by omega, by simp, by simp, Nat.le_refl _⟩
theorem LabI.lt (h : LabI q s i r xs) : i < (spl q s).length ∧ i.toNat < xs.length := by
  have h1 := congrArg List.length h.eq
  have h3 : 0 < (spl q r).length := List.length_pos_iff.2 (spl_ne q r)
  have := h.ln; have := h.i0
  rw [List.length_append, List.length_take] at h1
  omega
theorem LabI.step (h : LabI q s i r xs) (hm : 0 ≤ ixb r q) : LabI q s (i + 1) (r.drop (ixb r q + 1).toNat) (xs.set i.toNat (r.take (ixb r q).toNat)) := by
  have hl := h.lt; have hi := h.i0
  refine ⟨by omega, by simpa using h.ln, ?_, by rw [List.length_drop]; have := h.rl; omega⟩
  have e : (xs.set i.toNat (r.take (ixb r q).toNat)).take (i + 1).toNat = xs.take i.toNat ++ [r.take (ixb r q).toNat] := by
    rw [show (i + 1).toNat = i.toNat + 1 by omega, List.take_succ_eq_append_getElem (by simpa using hl.2), List.take_set_of_le (Nat.le_refl _)]
    simp
  rw [e, List.append_assoc, List.singleton_append, ← spl_at hm]; exact h.eq
theorem LabI.end (h : LabI q s i r xs) (hd : ixb r q < 0 ∨ (spl q s).length - 1 ≤ i) : xs.set i.toNat r = spl q s ∧ (i + 1).toNat = (spl q s).length := by
  have hl := h.lt; have hi := h.i0; have hn := h.ln
  have h1 := congrArg List.length h.eq
  have h3 : 0 < (spl q r).length := List.length_pos_iff.2 (spl_ne q r)
  rw [List.length_append, List.length_take] at h1
  have e : spl q r = [r] := by
    rcases hd with hd | hd
    · exact spl_no hd
    · exact spl_one (by omega)
  have e1 : (spl q r).length = 1 := by rw [e]; rfl
  have e2 : xs.length = i.toNat + 1 := by omega
  refine ⟨?_, by omega⟩
  rw [h.eq, e, List.set_eq_take_append_cons_drop, if_pos hl.2, List.drop_of_length_le (by omega)]
end
/-! the end of a name -/
theorem nm_dot {s : List UInt8} : nmMay (46 :: s) = false := by
  simp [nmMay, split, labOk]
theorem ends_ref {s z : List UInt8} (hs : nmMay s = true) : endsB s (46 :: z) = (decide (1 < (s.length : Int) - z.length) && decide (s.drop ((s.length : Int) - z.length).toNat = z) && decide (s.getD ((s.length : Int) - z.length - 1).toNat 0 = 46)) := by
  rw [Bool.eq_iff_iff]
  simp only [endsB, Bool.and_eq_true, decide_eq_true_eq, List.length_cons]
  constructor
  · rintro ⟨h1, h2⟩
    have hk : s.length - (z.length + 1) < s.length := by omega
    have hd := List.drop_eq_getElem_cons hk
    rw [hd] at h2
    have h3 := (List.cons.inj h2).1
    have h4 := (List.cons.inj h2).2
    refine ⟨⟨?_, ?_⟩, ?_⟩
    · apply Decidable.byContradiction
      intro hn
      have e0 : s.length - (z.length + 1) = 0 := by omega
      rw [← hd, e0, List.drop_zero] at h2
      rw [h2, nm_dot] at hs; cases hs
    · rw [show ((s.length : Int) - z.length).toNat = s.length - (z.length + 1) + 1 by omega]; exact h4
    · rw [show ((s.length : Int) - z.length - 1).toNat = s.length - (z.length + 1) by omega, List.getD_eq_getElem?_getD, List.getElem?_eq_getElem hk]; exact h3
  · rintro ⟨⟨h1, h2⟩, h3⟩
    have hk : s.length - (z.length + 1) < s.length := by omega
    refine ⟨by omega, ?_⟩
    rw [show ((s.length : Int) - z.length - 1).toNat = s.length - (z.length + 1) by omega, List.getD_eq_getElem?_getD, List.getElem?_eq_getElem hk] at h3
    rw [show ((s.length : Int) - z.length).toNat = s.length - (z.length + 1) + 1 by omega] at h2
    rw [List.drop_eq_getElem_cons hk, h2]
    exact congrArg (· :: z) h3
/-! rows without doubles -/
theorem nodup_snoc {α : Type} [DecidableEq α] {l : List α} {x : α} : (l ++ [x]).Nodup ↔ l.Nodup ∧ x ∉ l := by
  rw [List.nodup_append]
  constructor
  · rintro ⟨a, b, c⟩; exact ⟨a, fun h => c x h x (by simp) rfl⟩
  · rintro ⟨a, b⟩; exact ⟨a, by simp, fun p hp q hq => by simp at hq; subst hq; exact fun e => b (e ▸ hp)⟩
theorem nodup_no {α : Type} [DecidableEq α] {d : α} {l : List α} {i : Int} (h0 : 0 ≤ i) (h1 : i < l.length) (hm : l.getD i.toNat d ∈ l.take i.toNat) : ¬ l.Nodup := by
  intro hn
  have : (l.take (i + 1).toNat).Nodup := hn.sublist (List.take_sublist _ _)
  rw [take_at' d h0 h1, nodup_snoc] at this
  exact this.2 hm
end Go.Proofs.YtfmdaijkgjkmpaaGreatDoor
