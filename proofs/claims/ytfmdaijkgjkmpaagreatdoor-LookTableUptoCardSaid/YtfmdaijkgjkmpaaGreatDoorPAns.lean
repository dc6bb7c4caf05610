/- Several texts in one (PAns). Their conditions are their own. -/
import Derived.Test.YtfmdaijkgjkmpaaGreatDoorPZone
import Derived.Test.YtfmdaijkgjkmpaaGreatDoorPDns
set_option linter.unusedVariables false
set_option linter.unusedSimpArgs false
namespace Go.Proofs.YtfmdaijkgjkmpaaGreatDoor
open Go Go.RowKit
def arpaN : List UInt8 := [97, 114, 112, 97]
def ofR (rs : List RR) (nm : List UInt8) (k : Int) : List RR := rs.filter fun r => decide (r.name = nm) && (decide (r.type = k) || decide (k = 255))
def soaR (rs : List RR) : List RR := (rs.filter fun r => decide (r.type = 6)).take 1
def look (rs : List RR) (q : Qn') (z : List UInt8) : Int × List RR × List RR :=
  if under q.name z = false ∧ under q.name arpaN = false then (5, [], [])
  else if ofR rs q.name q.type ≠ [] then (0, ofR rs q.name q.type, [])
  else if ofR rs q.name 5 ≠ [] then (0, (ofR rs q.name 5).take 1 ++ ofR rs ((ofR rs q.name 5).headD dR).target q.type, [])
  else (if rs.any (fun r => under r.name q.name) = true then 0 else 3, [], soaR rs)
def replyD (m : Dn) (rs : List RR) (z : List UInt8) : Dn :=
  let x := look rs (m.qs.headD dQ) z
  let sz : Int := if 0 < m.size then 512 else 0
  if m.op ≠ 0 then ⟨m.id, true, m.op, false, false, m.recu, 4, m.qs, [], [], [], sz⟩
  else if m.qs.length ≠ 1 then ⟨m.id, true, m.op, false, false, m.recu, 1, m.qs, [], [], [], sz⟩
  else ⟨m.id, true, m.op, !decide (x.1 = 5), false, m.recu, x.1, m.qs, x.2.1, x.2.2, [], sz⟩
def ansP (c : Cf) (ls : List Lz) (now n : Int) (s : List UInt8) : List UInt8 × Bool × Int :=
  if zAsk c ls now n = false then ([], false, 2100)
  else if s.length < 12 ∨ 128 ≤ (s.getD 2 0).toNat then ([], false, 0)
  else if (dnGet s).2 = 0 then ((dnPut (replyD (dnGet s).1 (zRecs c ls now n) c.zone) (max 512 (min (dnGet s).1.size 1200))).1, true, 0)
  else ((dnPut ⟨n2 s 0, true, 0, false, false, false, 1, [], [], [], [], 0⟩ 512).1, true, 0)
end Go.Proofs.YtfmdaijkgjkmpaaGreatDoor

set_option linter.unusedVariables false
set_option linter.unusedSimpArgs false
namespace Go.Proofs.YtfmdaijkgjkmpaaGreatDoor
open Go Go.RowKit
theorem cut_may {m : Dn} (h : dnMay m = true) : dnMay (cutD m) = true := by
  simp only [dnMay, cutD, rsMay, Bool.and_eq_true] at h ⊢
  obtain ⟨⟨⟨⟨⟨⟨⟨⟨_, _⟩, _⟩, d⟩, e⟩, f⟩, g⟩, i⟩, j⟩ := h
  exact ⟨⟨⟨⟨⟨⟨⟨⟨⟨by simp, rfl⟩, by simp, rfl⟩, by simp, rfl⟩, d⟩, e⟩, f⟩, g⟩, i⟩, j⟩
theorem opt_len (m : Dn) : (dOpt m).length ≤ 11 := by
  unfold dOpt; split <;> simp [beb_len]
theorem short_len {m : Dn} (h : dnMay m = true) (h0 : dAll m = []) : (dWrite m).length ≤ 335 := by
  have h1 := (dn_len h).2.1
  have h2 := opt_len m
  rw [dWrite, List.length_append, dRs, h0, List.foldl_nil]; omega
/-- a message that is written with room for its question is read again, or its cut form is -/
theorem put_fits {m : Dn} (h : dnMay m = true) {k : Int} (h1 : 512 ≤ k) (h2 : k ≤ 65535) : ∃ m', (m' = m ∨ m' = cutD m) ∧ dnPut m k = (dWrite m', 0) ∧ dnGet (dWrite m') = (m', 0) ∧ ((dWrite m').length : Int) ≤ k := by
  have hk : inR k 12 65535 = true := inR_iff.2 ⟨by omega, h2⟩
  unfold dnPut
  rw [if_neg (by rw [h, hk]; simp)]
  split
  · rename_i hl; exact ⟨m, .inl rfl, rfl, dn_got h, hl⟩
  · have hc := cut_may h
    have hl := short_len hc rfl
    rw [if_pos (by omega)]
    exact ⟨cutD m, .inr rfl, rfl, dn_got hc, by omega⟩
theorem put_short {m : Dn} (h : dnMay m = true) (h0 : dAll m = []) {k : Int} (h1 : 512 ≤ k) (h2 : k ≤ 65535) : dnPut m k = (dWrite m, 0) := by
  have hk : inR k 12 65535 = true := inR_iff.2 ⟨by omega, h2⟩
  have hl := short_len h h0
  unfold dnPut
  rw [if_neg (by rw [h, hk]; simp), if_pos (by omega)]
/-! the zone's records -/
def tailZ (c : Cf) (ls : List Lz) (now : Int) : List RR := c.stat ++ (ls.filter (toldZ c now)).flatMap (lentR c)
theorem recs_tail (c : Cf) (ls : List Lz) (now n : Int) : zRecs c ls now n = zHead c n ++ tailZ c ls now := by rw [zRecs, tailZ, List.append_assoc]
theorem tail_len {c : Cf} {ls : List Lz} {now n : Int} (h : zAsk c ls now n = true) : (tailZ c ls now).length ≤ 32 := by
  simp only [zAsk, Bool.and_eq_true, cfMay, stOk, tbMay, decide_eq_true_eq] at h
  have h1 : c.stat.length ≤ 8 := h.1.1.1.2.2
  have h2 : ls.length ≤ 8 := h.1.1.2.2
  have h3 : ∀ l : List Lz, (l.flatMap (lentR c)).length = 3 * l.length := fun l => by
    induction l with
    | nil => rfl
    | cons x r ih => rw [List.flatMap_cons, List.length_append, ih]; simp [lentR]; omega
  have h4 := List.length_filter_le (toldZ c now) ls
  rw [tailZ, List.length_append, h3]; omega
theorem rev_labs : ∀ n : Fin 255, (labs (decD ((n.val : Nat) : Int) ++ backN)).length = 6 := by decide +kernel
theorem full_zone {c : Cf} {h : List UInt8} (hn : full c h ≠ []) : full c h ≠ c.zone := by
  unfold full at hn ⊢
  split
  · rename_i hq; exact hq.2.2.2.1
  · rename_i hq; rw [if_neg hq] at hn; exact absurd rfl hn
theorem tail_name {c : Cf} {ls : List Lz} {now n : Int} (h : zAsk c ls now n = true) : ∀ r ∈ tailZ c ls now, r.name ≠ c.zone := by
  have hc : cfMay c = true := by simp only [zAsk, Bool.and_eq_true] at h; exact h.1.1.1
  have hlab : (labs c.zone).length ≤ 4 := by simp only [cfMay, Bool.and_eq_true, decide_eq_true_eq] at hc; exact hc.1.1.1.1.2
  intro r hr
  rcases List.mem_append.1 hr with hr | hr
  · simp only [cfMay, stOk, Bool.and_eq_true, List.all_eq_true, stMay, Bool.not_eq_true', decide_eq_false_iff_not] at hc
    exact (hc.2.1 r hr).2
  · obtain ⟨l, hl, hr⟩ := List.mem_flatMap.1 hr
    have ht := (List.mem_filter.1 hl).2
    simp only [toldZ, live, lzMay, inZ, Bool.and_eq_true, decide_eq_true_eq, Bool.not_eq_true', decide_eq_false_iff_not] at ht
    obtain ⟨⟨⟨_, ⟨⟨⟨⟨⟨h1, _⟩, _⟩, _⟩, _⟩, _⟩, _⟩, _⟩, hf⟩ := ht
    simp only [lentR, List.mem_cons, List.not_mem_nil, or_false] at hr
    rcases hr with rfl | rfl | rfl
    · exact full_zone hf
    · exact full_zone hf
    · intro e
      have := rev_labs ⟨l.host.toNat, by omega⟩
      dsimp only at this e
      rw [Int.toNat_of_nonneg (by omega), e] at this
      omega
theorem of_sub {rs : List RR} {nm : List UInt8} {k : Int} : ∀ r ∈ ofR rs nm k, r ∈ rs ∧ r.name = nm ∧ (r.type = k ∨ k = 255) := fun r hr => by
  have := List.mem_filter.1 hr
  simpa using this
theorem of_tail {c : Cf} {ls : List Lz} {now n : Int} {nm : List UInt8} {k : Int} (hn : nm ≠ c.zone) : ofR (zRecs c ls now n) nm k = ofR (tailZ c ls now) nm k := by
  rw [recs_tail, ofR, List.filter_append]
  have : (zHead c n).filter (fun r => decide (r.name = nm) && (decide (r.type = k) || decide (k = 255))) = [] := by
    rw [List.filter_eq_nil_iff]
    intro r hr
    simp only [zHead, List.mem_cons, List.not_mem_nil, or_false] at hr
    rcases hr with rfl | rfl <;> simp [Ne.symm hn]
  rw [this]; rfl
theorem of_zone {c : Cf} {ls : List Lz} {now n : Int} {k : Int} (h : zAsk c ls now n = true) : (ofR (zRecs c ls now n) c.zone k).length ≤ 2 := by
  rw [recs_tail, ofR, List.filter_append, List.length_append]
  have h1 : ((tailZ c ls now).filter (fun r => decide (r.name = c.zone) && (decide (r.type = k) || decide (k = 255)))) = [] := by
    rw [List.filter_eq_nil_iff]
    intro r hr
    simp [tail_name h r hr]
  have h2 := List.length_filter_le (fun r => decide (r.name = c.zone) && (decide (r.type = k) || decide (k = 255))) (zHead c n)
  rw [h1]
  have h3 : (zHead c n).length = 2 := rfl
  simp only [List.length_nil]; omega
theorem of_len {c : Cf} {ls : List Lz} {now n : Int} {nm : List UInt8} {k : Int} (h : zAsk c ls now n = true) : (ofR (zRecs c ls now n) nm k).length ≤ 32 := by
  by_cases hn : nm = c.zone
  · subst hn; have := of_zone (k := k) h; omega
  · rw [of_tail hn]
    have := List.length_filter_le (fun r => decide (r.name = nm) && (decide (r.type = k) || decide (k = 255))) (tailZ c ls now)
    have := tail_len h
    rw [ofR]; omega
theorem headD_mem {α : Type} {l : List α} {d : α} (h : l ≠ []) : l.headD d ∈ l := by
  cases l with
  | nil => exact absurd rfl h
  | cons a r => simp
theorem alias_len {c : Cf} {ls : List Lz} {now n : Int} {nm : List UInt8} {k : Int} (h : zAsk c ls now n = true) (h1 : ofR (zRecs c ls now n) nm k = []) (h2 : ofR (zRecs c ls now n) nm 5 ≠ []) :
    ((ofR (zRecs c ls now n) nm 5).take 1 ++ ofR (zRecs c ls now n) ((ofR (zRecs c ls now n) nm 5).headD dR).target k).length ≤ 32 := by
  have hm := headD_mem (d := dR) h2
  obtain ⟨m1, m2, m3⟩ := of_sub _ hm
  generalize (ofR (zRecs c ls now n) nm 5).headD dR = r0 at *
  have hz : nm ≠ c.zone := by
    intro e
    rw [recs_tail] at m1
    rcases List.mem_append.1 m1 with m1 | m1
    · simp only [zHead, List.mem_cons, List.not_mem_nil, or_false] at m1
      rcases m1 with rfl | rfl <;> simp at m3
    · exact tail_name h _ m1 (m2.trans e)
  have h3 : ((ofR (zRecs c ls now n) nm 5).take 1).length ≤ 1 := by rw [List.length_take]; omega
  rw [List.length_append]
  by_cases ht : r0.target = nm
  · rw [ht, h1]; simp only [List.length_nil]; omega
  · by_cases hz2 : r0.target = c.zone
    · rw [hz2]; have := of_zone (k := k) h; omega
    · rw [of_tail hz2]
      have hin : r0 ∈ tailZ c ls now := by
        rw [recs_tail] at m1
        rcases List.mem_append.1 m1 with m1 | m1
        · simp only [zHead, List.mem_cons, List.not_mem_nil, or_false] at m1
          rcases m1 with rfl | rfl <;> simp at m3
        · exact m1
      have hlt : (ofR (tailZ c ls now) r0.target k).length < (tailZ c ls now).length := by
        rw [ofR]
        refine List.length_filter_lt_length_iff_exists.2 ⟨r0, hin, ?_⟩
        simp [m2, Ne.symm ht]
      have := tail_len h
      omega
theorem soa_sub {rs : List RR} : ∀ r ∈ soaR rs, r ∈ rs ∧ r.type = 6 := fun r hr => by
  have := List.mem_filter.1 (List.mem_of_mem_take hr)
  simpa using this
theorem look_may {c : Cf} {ls : List Lz} {now n : Int} (q : Qn') (h : zAsk c ls now n = true) : rsMay (look (zRecs c ls now n) q c.zone).2.1 = true ∧ rsMay (look (zRecs c ls now n) q c.zone).2.2 = true ∧ 0 ≤ (look (zRecs c ls now n) q c.zone).1 ∧ (look (zRecs c ls now n) q c.zone).1 ≤ 5 := by
  have hr := recs_may h
  have key : ∀ l : List RR, l.length ≤ 32 → (∀ r ∈ l, r ∈ zRecs c ls now n) → rsMay l = true := fun l h1 h2 => by
    rw [rsMay, decide_eq_true h1, Bool.true_and, List.all_eq_true]; exact fun r hm => hr r (h2 r hm)
  have hn : rsMay [] = true := by decide
  unfold look
  split
  · exact ⟨hn, hn, by decide, by decide⟩
  split
  · exact ⟨key _ (of_len h) (fun r hm => (of_sub r hm).1), hn, by dsimp only; omega, by dsimp only; omega⟩
  rename_i h1
  have h1 : ofR (zRecs c ls now n) q.name q.type = [] := by simpa using h1
  split
  · rename_i h2
    refine ⟨key _ (alias_len h h1 h2) (fun r hm => ?_), hn, by dsimp only; omega, by dsimp only; omega⟩
    rcases List.mem_append.1 hm with hm | hm
    · exact (of_sub r (List.mem_of_mem_take hm)).1
    · exact (of_sub r hm).1
  · refine ⟨hn, key _ (by rw [soaR, List.length_take]; omega) (fun r hm => (soa_sub r hm).1), ?_⟩
    dsimp only; split <;> decide
theorem reply_may {c : Cf} {ls : List Lz} {now n : Int} {m : Dn} (h : zAsk c ls now n = true) (hm : dnMay m = true) : dnMay (replyD m (zRecs c ls now n) c.zone) = true := by
  obtain ⟨l1, l2, l3, l4⟩ := look_may (m.qs.headD dQ) h
  have hn : rsMay [] = true := by decide
  have hs : (decide ((if 0 < m.size then (512 : Int) else 0) = 0) || inR (if 0 < m.size then 512 else 0) 512 65535) = true := by split <;> decide
  simp only [dnMay, Bool.and_eq_true] at hm
  obtain ⟨⟨⟨⟨⟨⟨⟨⟨_, _⟩, _⟩, d⟩, e⟩, f⟩, g⟩, i⟩, j⟩ := hm
  unfold replyD
  dsimp only
  split
  · simp only [dnMay, Bool.and_eq_true]; exact ⟨⟨⟨⟨⟨⟨⟨⟨hn, hn⟩, hn⟩, d⟩, e⟩, by decide⟩, g⟩, i⟩, hs⟩
  split
  · simp only [dnMay, Bool.and_eq_true]; exact ⟨⟨⟨⟨⟨⟨⟨⟨hn, hn⟩, hn⟩, d⟩, e⟩, by decide⟩, g⟩, i⟩, hs⟩
  · simp only [dnMay, Bool.and_eq_true]; exact ⟨⟨⟨⟨⟨⟨⟨⟨l1, l2⟩, hn⟩, d⟩, e⟩, inR_iff.2 ⟨l3, by omega⟩⟩, g⟩, i⟩, hs⟩
theorem get_may {s : List UInt8} (h : (dnGet s).2 = 0) : dnMay (dnGet s).1 = true ∧ (dnGet s).1.id = n2 s 0 ∧ 12 ≤ s.length := by
  unfold dnGet at h ⊢
  cases hd : dG s with
  | none => rw [hd] at h; exact absurd (show (500 : Int) = 0 from h) (by decide)
  | some x =>
    rw [hd] at h
    dsimp only at h ⊢
    split at h
    · rename_i hq
      rw [if_pos hq]
      refine ⟨hq.2, ?_⟩
      unfold dG at hd
      split at hd
      · rename_i h12
        simp only [Option.bind_eq_some_iff, Option.map_eq_some_iff] at hd
        obtain ⟨q, _, x1, _, y, _, w, _, rfl⟩ := hd
        exact ⟨rfl, h12.1⟩
      · cases hd
    · exact absurd (show (500 : Int) = 0 from h) (by decide)
def errD (s : List UInt8) : Dn := ⟨n2 s 0, true, 0, false, false, false, 1, [], [], [], [], 0⟩
theorem n2_zero {s : List UInt8} (h : 2 ≤ s.length) : n2 s 0 = (s.getD 0 0).toNat * 256 + (s.getD 1 0).toNat := by
  rcases s with _ | ⟨a, _ | ⟨b, r⟩⟩
  · simp at h
  · simp at h
  · simp [n2, numS, slc, numI]
    try omega
theorem err_may {s : List UInt8} (h : 2 ≤ s.length) : dnMay (errD s) = true := by
  have h1 := n2_zero h
  have h2 := (s.getD 0 0).toNat_lt; have h3 := (s.getD 1 0).toNat_lt
  have hn : rsMay [] = true := by decide
  simp only [dnMay, errD, Bool.and_eq_true]
  exact ⟨⟨⟨⟨⟨⟨⟨⟨hn, hn⟩, hn⟩, inR_iff.2 ⟨by omega, by omega⟩⟩, by decide⟩, by decide⟩, by simp⟩, by simp⟩, by decide⟩
/-- what is answered is a message -/
theorem ans_got {c : Cf} {ls : List Lz} {now n : Int} {s : List UInt8} (h : zAsk c ls now n = true) (hs : 12 ≤ s.length) (h2 : (s.getD 2 0).toNat < 128) :
    ∃ m, (ansP c ls now n s).2 = (true, 0) ∧ dnGet (ansP c ls now n s).1 = (m, 0) ∧ (ansP c ls now n s).1.length ≤ 1200 ∧
      (((dnGet s).2 = 0 ∧ (m = replyD (dnGet s).1 (zRecs c ls now n) c.zone ∨ m = cutD (replyD (dnGet s).1 (zRecs c ls now n) c.zone))) ∨ ((dnGet s).2 ≠ 0 ∧ m = errD s)) := by
  unfold ansP
  rw [if_neg (by rw [h]; simp), if_neg (by omega)]
  split
  · rename_i hg
    obtain ⟨hm, _⟩ := get_may hg
    obtain ⟨m', e1, e2, e3, e4⟩ := put_fits (reply_may (n := n) h hm) (k := max 512 (min (dnGet s).1.size 1200)) (by omega) (by omega)
    rw [e2]
    exact ⟨m', rfl, e3, by dsimp only; omega, .inl ⟨hg, e1⟩⟩
  · rename_i hg
    have he := err_may (s := s) (by omega)
    have e2 : dnPut (errD s) 512 = (dWrite (errD s), 0) := put_short he rfl (by decide) (by decide)
    have e3 := short_len he rfl
    rw [show (⟨n2 s 0, true, 0, false, false, false, 1, [], [], [], [], 0⟩ : Dn) = errD s from rfl, e2]
    exact ⟨errD s, rfl, dn_got he, by dsimp only; omega, .inr ⟨hg, rfl⟩⟩
end Go.Proofs.YtfmdaijkgjkmpaaGreatDoor

set_option linter.unusedVariables false
set_option linter.unusedSimpArgs false
namespace Go.Proofs.YtfmdaijkgjkmpaaGreatDoor
open Go Go.RowKit
def askD (id : Int) (nm : List UInt8) (k : Int) (r : Bool) (sz : Int) : Dn := ⟨id, false, 0, false, false, r, 0, [⟨nm, k⟩], [], [], [], sz⟩
theorem ask_may {id : Int} {nm : List UInt8} {k : Int} {r : Bool} {sz : Int} (hi : 0 ≤ id ∧ id ≤ 65535) (hn : nmMay nm = true) (hk : 0 ≤ k ∧ k ≤ 65535) (hs : sz = 0 ∨ (512 ≤ sz ∧ sz ≤ 65535)) : dnMay (askD id nm k r sz) = true := by
  have h0 : rsMay [] = true := by decide
  simp only [dnMay, askD, Bool.and_eq_true, Bool.or_eq_true, decide_eq_true_eq, inR_iff, qMay, List.all_cons, List.all_nil]
  exact ⟨⟨⟨⟨⟨⟨⟨⟨h0, h0⟩, h0⟩, hi⟩, by omega⟩, by omega⟩, by simp⟩, ⟨⟨hn, hk⟩, trivial⟩⟩, hs.imp (fun h => decide_eq_true h) (fun h => h)⟩
theorem ask_put {id : Int} {nm : List UInt8} {k : Int} {r : Bool} {sz : Int} (h : dnMay (askD id nm k r sz) = true) : dnPut (askD id nm k r sz) 512 = (dWrite (askD id nm k r sz), 0) := put_short h rfl (by decide) (by decide)
theorem put_may {m : Dn} {k : Int} (h : (dnPut m k).2 = 0) : dnMay m = true := by
  unfold dnPut at h
  split at h
  · exact absurd (show (500 : Int) = 0 from h) (by decide)
  · rename_i hq
    cases hm : dnMay m with
    | true => rfl
    | false => exact absurd (.inl hm) hq
theorem put_no {m : Dn} {k : Int} (h : dnMay m = false) : dnPut m k = ([], 500) := by
  unfold dnPut; rw [if_pos (.inl h)]
theorem fold_q_pre : ∀ (l : List Qn') (st : List UInt8 × List Kn), ∃ z, (l.foldl qPut st).1 = st.1 ++ z
  | [], st => ⟨[], by simp⟩
  | q :: l, st => by
    obtain ⟨z, hz⟩ := fold_q_pre l (qPut st q)
    refine ⟨((nmPut st.1.length st.2 q.name).1 ++ beb q.type 2 ++ beb 1 2) ++ z, ?_⟩
    rw [List.foldl_cons, hz]; simp [qPut]
theorem fold_r_pre : ∀ (l : List RR) (st : List UInt8 × List Kn), ∃ z, (l.foldl rPut st).1 = st.1 ++ z
  | [], st => ⟨[], by simp⟩
  | r :: l, st => by
    obtain ⟨z, hz⟩ := fold_r_pre l (rPut st r)
    refine ⟨(rrPut st.1.length st.2 r).1 ++ z, ?_⟩
    rw [List.foldl_cons, hz]; simp [rPut]
theorem write_hd (m : Dn) : ∃ z, dWrite m = dHd m ++ z := by
  obtain ⟨z1, h1⟩ := fold_q_pre m.qs (dHd m, [])
  obtain ⟨z2, h2⟩ := fold_r_pre (dAll m) (dQs m)
  refine ⟨z1 ++ z2 ++ dOpt m, ?_⟩
  rw [dWrite, dRs, h2, dQs, h1]; simp
theorem ask_third (id : Int) (nm : List UInt8) (k : Int) (r : Bool) (sz : Int) : ((dWrite (askD id nm k r sz)).getD 2 0).toNat < 128 ∧ 12 ≤ (dWrite (askD id nm k r sz)).length := by
  obtain ⟨z, hz⟩ := write_hd (askD id nm k r sz)
  have hl := hd_len (askD id nm k r sz)
  refine ⟨?_, by rw [hz, List.length_append]; omega⟩
  rw [hz, List.getD_eq_getElem?_getD, List.getElem?_append_left (by omega)]
  have e : dBits (askD id nm k r sz) = 256 ∨ dBits (askD id nm k r sz) = 0 := by cases r <;> simp [dBits, askD, flg]
  have e2 : (dHd (askD id nm k r sz))[2]? = (beb (dBits (askD id nm k r sz)) 2)[0]? := by
    rw [dHd]
    simp only [List.append_assoc]
    rw [List.getElem?_append_right (by rw [beb_len]; exact Nat.le_refl 2), beb_len, List.getElem?_append_left (by rw [beb_len]; decide)]
  rw [e2]
  rcases e with e | e <;> rw [e] <;> decide
/-- an asked question's answer -/
theorem ask_got {c : Cf} {ls : List Lz} {now n : Int} {id : Int} {nm : List UInt8} {k : Int} {r : Bool} {sz : Int} (h : zAsk c ls now n = true) (hm : dnMay (askD id nm k r sz) = true) :
    ∃ m, (ansP c ls now n (dWrite (askD id nm k r sz))).2 = (true, 0) ∧ dnGet (ansP c ls now n (dWrite (askD id nm k r sz))).1 = (m, 0) ∧ (ansP c ls now n (dWrite (askD id nm k r sz))).1.length ≤ 1200 ∧
      (m = replyD (askD id nm k r sz) (zRecs c ls now n) c.zone ∨ m = cutD (replyD (askD id nm k r sz) (zRecs c ls now n) c.zone)) := by
  obtain ⟨t1, t2⟩ := ask_third id nm k r sz
  obtain ⟨m, e1, e2, e3, e4⟩ := ans_got (n := n) h t2 t1
  rw [dn_got hm] at e4
  refine ⟨m, e1, e2, e3, ?_⟩
  rcases e4 with ⟨_, e4⟩ | ⟨e4, _⟩
  · exact e4
  · exact absurd rfl e4
theorem reply_ask (id : Int) (nm : List UInt8) (k : Int) (r : Bool) (sz : Int) (rs : List RR) (z : List UInt8) : replyD (askD id nm k r sz) rs z = ⟨id, true, 0, !decide ((look rs ⟨nm, k⟩ z).1 = 5), false, r, (look rs ⟨nm, k⟩ z).1, [⟨nm, k⟩], (look rs ⟨nm, k⟩ z).2.1, (look rs ⟨nm, k⟩ z).2.2, [], if 0 < sz then 512 else 0⟩ := by
  unfold replyD askD; dsimp only; rw [if_neg (by simp), if_neg (by simp)]; rfl
/-! what is looked up -/
theorem soa_head (c : Cf) (ls : List Lz) (now n : Int) : (soaR (zRecs c ls now n)).length = 1 := by
  rw [soaR, zRecs, zHead, List.length_take, List.cons_append, List.cons_append, List.filter_cons_of_pos (by simp)]
  simp
theorem look_five {rs : List RR} {q : Qn'} {z : List UInt8} (h : (look rs q z).1 = 5) : under q.name z = false ∧ under q.name arpaN = false ∧ (look rs q z).2.1 = [] := by
  unfold look at h ⊢
  split
  · rename_i h1; exact ⟨h1.1, h1.2, rfl⟩
  · rename_i h1
    rw [if_neg h1] at h
    split at h
    · exact absurd (show (0 : Int) = 5 from h) (by decide)
    split at h
    · exact absurd (show (0 : Int) = 5 from h) (by decide)
    · dsimp only at h; split at h <;> exact absurd h (by decide)
theorem look_none {c : Cf} {ls : List Lz} {now n : Int} {q : Qn'} {z : List UInt8} (h5 : (look (zRecs c ls now n) q z).1 ≠ 5) (h : (look (zRecs c ls now n) q z).2.1 = []) :
    (look (zRecs c ls now n) q z).1 = (if (zRecs c ls now n).any (fun r => under r.name q.name) = true then 0 else 3) ∧ (look (zRecs c ls now n) q z).2.2.length = 1 ∧ ((look (zRecs c ls now n) q z).2.2.getD 0 dR).type = 6 := by
  have hs := soa_head c ls now n
  generalize zRecs c ls now n = rs at *
  unfold look at h5 h ⊢
  split
  · rename_i h1; rw [if_pos h1] at h5; exact absurd rfl h5
  rename_i h1
  rw [if_neg h1] at h
  split
  · rename_i h2; rw [if_pos h2] at h; exact absurd h h2
  rename_i h2
  rw [if_neg h2] at h
  split
  · rename_i h3
    rw [if_pos h3] at h
    dsimp only at h
    cases he : ofR rs q.name 5 with
    | nil => exact absurd he h3
    | cons a r => rw [he] at h; simp at h
  · refine ⟨rfl, hs, ?_⟩
    have hm : (soaR rs).getD 0 dR ∈ soaR rs := by
      rcases hc : soaR rs with _ | ⟨a, r⟩
      · rw [hc] at hs; simp at hs
      · simp
    exact (soa_sub _ hm).2
theorem look_some {rs : List RR} {q : Qn'} {z : List UInt8} (h : (look rs q z).2.1 ≠ []) :
    (look rs q z).1 = 0 ∧ (∀ r ∈ (look rs q z).2.1, r ∈ rs) ∧ (((look rs q z).2.1.getD 0 dR).type = 5 ∧ q.type ≠ 5 ∧ q.type ≠ 255 ∨ ∀ r ∈ (look rs q z).2.1, r.name = q.name ∧ (q.type = 255 ∨ r.type = q.type)) := by
  unfold look at h ⊢
  split
  · rename_i h1; rw [if_pos h1] at h; exact absurd rfl h
  rename_i h1
  rw [if_neg h1] at h
  split
  · refine ⟨rfl, fun r hr => (of_sub r hr).1, .inr fun r hr => ?_⟩
    obtain ⟨_, a, b⟩ := of_sub r hr
    exact ⟨a, by rcases b with b | b; (exact .inr b); (exact .inl b)⟩
  rename_i h2
  rw [if_neg h2] at h
  have h2 : ofR rs q.name q.type = [] := by simpa using h2
  split
  · rename_i h3
    have hm := headD_mem (d := dR) h3
    obtain ⟨m1, m2, m3⟩ := of_sub _ hm
    have m3 : ((ofR rs q.name 5).headD dR).type = 5 := by
      rcases m3 with m3 | m3
      · exact m3
      · exact absurd m3 (by decide)
    have hno : ∀ r ∈ rs, r.name = q.name → r.type = 5 → q.type ≠ 5 ∧ q.type ≠ 255 := fun r hr e1 e2 => by
      have := List.filter_eq_nil_iff.1 h2 r hr
      simp only [e1, e2, decide_true, Bool.true_and, Bool.or_eq_true, decide_eq_true_eq, not_or] at this
      exact ⟨fun e => this.1 e.symm, this.2⟩
    refine ⟨rfl, fun r hr => ?_, .inl ⟨?_, hno _ m1 m2 m3⟩⟩
    · rcases List.mem_append.1 hr with hr | hr
      · exact (of_sub r (List.mem_of_mem_take hr)).1
      · exact (of_sub r hr).1
    · cases he : ofR rs q.name 5 with
      | nil => exact absurd he h3
      | cons a r => rw [he] at m3; simpa using m3
  · rename_i h3; rw [if_neg h3] at h; exact absurd rfl h
theorem ans_no {c : Cf} {ls : List Lz} {now n : Int} {s : List UInt8} (h : ¬(ansP c ls now n s).2.2 = 0 ∨ (ansP c ls now n s).2.1 = false) : (ansP c ls now n s).1 = [] ∧ (ansP c ls now n s).2.1 = false := by
  unfold ansP at h ⊢
  split
  · exact ⟨rfl, rfl⟩
  rename_i h1
  rw [if_neg h1] at h
  split
  · exact ⟨rfl, rfl⟩
  rename_i h2
  rw [if_neg h2] at h
  split at h
  · rcases h with h | h
    · exact absurd rfl h
    · cases h
  · rcases h with h | h
    · exact absurd rfl h
    · cases h
theorem ans_yes {c : Cf} {ls : List Lz} {now n : Int} {s : List UInt8} (h : (ansP c ls now n s).2.1 = true) : zAsk c ls now n = true ∧ 12 ≤ s.length ∧ (s.getD 2 0).toNat < 128 := by
  unfold ansP at h
  split at h
  · cases h
  rename_i h1
  split at h
  · cases h
  rename_i h2
  exact ⟨by simpa using h1, by omega, by omega⟩
theorem reply_id (m : Dn) (rs : List RR) (z : List UInt8) : (replyD m rs z).id = m.id ∧ (replyD m rs z).resp = true := by
  unfold replyD; dsimp only
  split
  · exact ⟨rfl, rfl⟩
  split <;> exact ⟨rfl, rfl⟩
/-- no datagram makes it fail -/
theorem ans_never {c : Cf} {ls : List Lz} {now n : Int} {s : List UInt8} (h : (ansP c ls now n s).2.1 = true) : ∃ m, dnGet (ansP c ls now n s).1 = (m, 0) ∧ 12 ≤ s.length ∧ (ansP c ls now n s).1.length ≤ 1200 ∧ m.resp = true ∧ m.id = (s.getD 0 0).toNat * 256 + (s.getD 1 0).toNat := by
  obtain ⟨h1, h2, h3⟩ := ans_yes h
  obtain ⟨m, _, e2, e3, e4⟩ := ans_got (n := n) h1 h2 h3
  refine ⟨m, e2, h2, e3, ?_⟩
  rw [← n2_zero (by omega)]
  rcases e4 with ⟨hg, e | e⟩ | ⟨_, e⟩
  · obtain ⟨a, b⟩ := reply_id (dnGet s).1 (zRecs c ls now n) c.zone
    rw [e]; exact ⟨b, a.trans (get_may hg).2.1⟩
  · obtain ⟨a, b⟩ := reply_id (dnGet s).1 (zRecs c ls now n) c.zone
    rw [e]; exact ⟨b, a.trans (get_may hg).2.1⟩
  · rw [e]; exact ⟨rfl, rfl⟩
end Go.Proofs.YtfmdaijkgjkmpaaGreatDoor

set_option linter.unusedVariables false
set_option linter.unusedSimpArgs false
namespace Go.Proofs.YtfmdaijkgjkmpaaGreatDoor
open Go Go.RowKit
def lanN : List UInt8 := [108, 97, 110]
def kSoa : RR := ⟨lanN, 6, 0, 0, [110, 115, 46, 108, 97, 110], [], 3⟩
def kAd : RR := ⟨[97, 46, 98, 46, 108, 97, 110], 1, 0, 1, [], [], 0⟩
def kTx : RR := ⟨[97, 46, 98, 46, 108, 97, 110], 16, 0, 0, [], [120], 0⟩
def kAl : RR := ⟨[97, 108, 46, 108, 97, 110], 5, 0, 0, [97, 46, 98, 46, 108, 97, 110], [], 0⟩
def kRs : List RR := [kSoa, kAd, kTx, kAl]
def kQs : List Qn' := [⟨[97, 46, 98, 46, 108, 97, 110], 1⟩, ⟨[97, 46, 98, 46, 108, 97, 110], 255⟩, ⟨[97, 108, 46, 108, 97, 110], 1⟩, ⟨[97, 108, 46, 108, 97, 110], 5⟩, ⟨[98, 46, 108, 97, 110], 1⟩, ⟨[99, 46, 108, 97, 110], 1⟩, ⟨[97, 46, 98, 46, 108, 97, 110], 12⟩, ⟨[97, 46, 110, 101, 116], 1⟩, ⟨[120, 46, 97, 114, 112, 97], 12⟩, ⟨[97, 108, 46, 108, 97, 110], 12⟩]
def kCs : List Int := [0, 0, 0, 0, 0, 3, 0, 5, 3, 0]
def kAs : List (List RR) := [[kAd], [kAd, kTx], [kAl, kAd], [kAl], [], [], [], [], [], [kAl]]
def kSs : List Int := [0, 0, 0, 0, 1, 1, 1, 0, 1, 0]
theorem table_look : ∀ i : Fin 10, look kRs (kQs.getD i.val dQ) lanN = (kCs.getD i.val 0, kAs.getD i.val [], if kSs.getD i.val 0 = 1 then [kSoa] else []) := by decide +kernel
theorem table_at {i : Int} (h0 : 0 ≤ i) (h1 : i < 10) : look kRs (kQs.getD i.toNat dQ) lanN = (kCs.getD i.toNat 0, kAs.getD i.toNat [], if kSs.getD i.toNat 0 = 1 then [kSoa] else []) := table_look ⟨i.toNat, by omega⟩
theorem table_q {i : Int} (h0 : 0 ≤ i) (h1 : i < 10) : (kQs.getD i.toNat dQ).name.length ≤ 10 ∧ (kSs.getD i.toNat 0 = 0 ∨ kSs.getD i.toNat 0 = 1) := by
  have key : ∀ i : Fin 10, (kQs.getD i.val dQ).name.length ≤ 10 ∧ (kSs.getD i.val 0 = 0 ∨ kSs.getD i.val 0 = 1) := by decide +kernel
  exact key ⟨i.toNat, by omega⟩
/-! datagrams -/
def fT : List (List UInt8) := [[], [0, 7, 0, 0, 0, 0, 0, 0, 0, 0, 0], [0, 7, 128, 0, 0, 0, 0, 0, 0, 0, 0, 0], [0, 7, 0, 0, 0, 0, 0, 0, 0, 0, 0, 0], [0, 7, 8, 0, 0, 0, 0, 0, 0, 0, 0, 0], [0, 7, 0, 0, 0, 0, 0, 0, 0, 0, 0, 0, 120], [0, 7, 0, 0, 0, 2, 0, 0, 0, 0, 0, 0, 0, 0, 1, 0, 1, 0, 0, 1, 0, 1], [0, 7, 120, 0, 0, 0, 0, 0, 0, 0, 0, 0]]
def fW : List Int := [-1, -1, -1, 1, 4, 1, 1, 4]
theorem giv_ask : zAsk givC [] 0 1 = true := by decide +kernel
def fOk (i : Nat) : Bool :=
  let x := ansP givC [] 0 1 (fT.getD i [])
  let m := dnGet x.1
  if fW.getD i 0 < 0 then decide (x = ([], false, 0)) else x.2.1 && decide (x.2.2 = 0) && decide (m.2 = 0) && decide (m.1.id = 7) && m.1.resp && decide (m.1.code = fW.getD i 0) && !m.1.auth && decide (m.1.an = []) && decide (m.1.se = [])
theorem forms_f : ∀ i : Fin 8, fOk i.val = true := by decide +kernel
/-! the sign of life -/
def wQ : List UInt8 := [119, 119, 119, 46, 108, 97, 110]
def a1T : List UInt8 := (dnPut (askD 7 wQ 1 false 0) 512).1
theorem aw_21 : (ansP givC [] 0 1 a1T).2 = (true, 0) ∧ (dnGet (ansP givC [] 0 1 a1T).1).2 = 0 ∧ (dnGet (ansP givC [] 0 1 a1T).1).1.id = 7 ∧ (dnGet (ansP givC [] 0 1 a1T).1).1.auth = true ∧ (dnGet (ansP givC [] 0 1 a1T).1).1.code = 0 ∧ (dnGet (ansP givC [] 0 1 a1T).1).1.an = givC.stat ∧
    ansP givC [] 0 1 [115, 104, 111, 114, 116] = ([], false, 0) ∧ ansP givC [] 0 1 [1, 2, 0, 0, 0, 1, 0, 0, 0, 0, 0, 0] = ([1, 2, 128, 1, 0, 0, 0, 0, 0, 0, 0, 0], true, 0) ∧ look [] ⟨[120, 46, 99, 111, 109], 1⟩ lanN = (5, [], []) := by decide +kernel
end Go.Proofs.YtfmdaijkgjkmpaaGreatDoor
