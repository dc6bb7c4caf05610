/- What strconv.Atoi comes to: the library's own contract, laid at this program. Condition: the library's two variables for such errors hold errors. -/
import Derived.Test.YtagiajnpnjakhaaDoorCall
import Derived.Test.YtagiajnpnjakhaaDoorPScr
import Derived.Shelf.Strconv.AtoiAll
set_option linter.unusedVariables false
set_option linter.unusedSimpArgs false
namespace Go.Proofs.YtagiajnpnjakhaaDoor
open Go Go.RowKit Go.Shelf
def atoR : Ren := ⟨fun k => match k with | 129 => 141 | 171 => 83 | 172 => 95 | 205 => 139 | 243 => 104 | 244 => 109 | 245 => 110 | 246 => 114 | 247 => 121 | 279 => 122 | 280 => 123 | 281 => 124 | 282 => 125 | 283 => 126 | 284 => 127 | 285 => 128 | 286 => 129 | 287 => 137 | 316 => 138 | 317 => 140 | 318 => 142 | 319 => 143 | 320 => 144 | 321 => 148 | 322 => 149 | 337 => 150 | 338 => 151 | _ => 0, fun k => match k with | 0 => 0 | 2 => 2 | 3 => 3 | 4 => 4 | 5 => 5 | 9 => 9 | 20 => 20 | 21 => 21 | 37 => 76 | 46 => 56 | 51 => 112 | 53 => 95 | 75 => 123 | 76 => 124 | 80 => 126 | 85 => 148 | 127 => 137 | 143 => 175 | 145 => 177 | 167 => 147 | 168 => 150 | 171 => 153 | 173 => 156 | 175 => 162 | 210 => 166 | 212 => 169 | 213 => 170 | 232 => 183 | 233 => 184 | _ => 0, fun k => match k with | 15 => 1 | 16 => 2 | 17 => 3 | 18 => 6 | 19 => 7 | _ => 0⟩
theorem atoL : LaysC.n172 Tryd.prog atoR := {
  mixed := by kernel_rfl
  f129 := by kernel_rfl
  f171 := by kernel_rfl
  f172 := by kernel_rfl
  f205 := by kernel_rfl
  f243 := by kernel_rfl
  f244 := by kernel_rfl
  f245 := by kernel_rfl
  f246 := by kernel_rfl
  f247 := by kernel_rfl
  f279 := by kernel_rfl
  f280 := by kernel_rfl
  f281 := by kernel_rfl
  f282 := by kernel_rfl
  f283 := by kernel_rfl
  f284 := by kernel_rfl
  f285 := by kernel_rfl
  f286 := by kernel_rfl
  f287 := by kernel_rfl
  f316 := by kernel_rfl
  f317 := by kernel_rfl
  f318 := by kernel_rfl
  f319 := by kernel_rfl
  f320 := by kernel_rfl
  f321 := by kernel_rfl
  f322 := by kernel_rfl
  f337 := by kernel_rfl
  f338 := by kernel_rfl
  t0 := by kernel_rfl
  a0 := fun w => by kernel_rfl
  z0 := fun w => by kernel_rfl
  v0 := fun w => by kernel_rfl
  t2 := by kernel_rfl
  a2 := fun w => by kernel_rfl
  z2 := fun w => by kernel_rfl
  v2 := fun w => by kernel_rfl
  t3 := by kernel_rfl
  a3 := fun w => by kernel_rfl
  z3 := fun w => by kernel_rfl
  v3 := fun w => by kernel_rfl
  t4 := by kernel_rfl
  a4 := fun w => by kernel_rfl
  z4 := fun w => by kernel_rfl
  v4 := fun w => by kernel_rfl
  t5 := by kernel_rfl
  a5 := fun w => by kernel_rfl
  z5 := fun w => by kernel_rfl
  v5 := fun w => by kernel_rfl
  t9 := by kernel_rfl
  a9 := fun w => by kernel_rfl
  z9 := fun w => by kernel_rfl
  v9 := fun w => by kernel_rfl
  t20 := by kernel_rfl
  a20 := fun w => by kernel_rfl
  z20 := fun w => by kernel_rfl
  v20 := fun w => by kernel_rfl
  t21 := by kernel_rfl
  a21 := fun w => by kernel_rfl
  z21 := fun w => by kernel_rfl
  v21 := fun w => by kernel_rfl
  t37 := by kernel_rfl
  a37 := fun w => by kernel_rfl
  z37 := fun w => by kernel_rfl
  v37 := fun w => by kernel_rfl
  t46 := by kernel_rfl
  a46 := fun w => by kernel_rfl
  z46 := fun w => by kernel_rfl
  v46 := fun w => by kernel_rfl
  t51 := by kernel_rfl
  a51 := fun w => by kernel_rfl
  z51 := fun w => by kernel_rfl
  v51 := fun w => by kernel_rfl
  t53 := by kernel_rfl
  a53 := fun w => by kernel_rfl
  z53 := fun w => by kernel_rfl
  v53 := fun w => by kernel_rfl
  t75 := by kernel_rfl
  a75 := fun w => by kernel_rfl
  z75 := fun w => by kernel_rfl
  v75 := fun w => by kernel_rfl
  t76 := by kernel_rfl
  a76 := fun w => by kernel_rfl
  z76 := fun w => by kernel_rfl
  v76 := fun w => by kernel_rfl
  t85 := by kernel_rfl
  a85 := fun w => by kernel_rfl
  z85 := fun w => by kernel_rfl
  v85 := fun w => by kernel_rfl
  t127 := by kernel_rfl
  a127 := fun w => by kernel_rfl
  z127 := fun w => by kernel_rfl
  v127 := fun w => by kernel_rfl
  t143 := by kernel_rfl
  a143 := fun w => by kernel_rfl
  z143 := fun w => by kernel_rfl
  v143 := fun w => by kernel_rfl
  t145 := by kernel_rfl
  a145 := fun w => by kernel_rfl
  z145 := fun w => by kernel_rfl
  v145 := fun w => by kernel_rfl
  t167 := by kernel_rfl
  a167 := fun w => by kernel_rfl
  z167 := fun w => by kernel_rfl
  v167 := fun w => by kernel_rfl
  t168 := by kernel_rfl
  a168 := fun w => by kernel_rfl
  z168 := fun w => by kernel_rfl
  v168 := fun w => by kernel_rfl
  t171 := by kernel_rfl
  a171 := fun w => by kernel_rfl
  z171 := fun w => by kernel_rfl
  v171 := fun w => by kernel_rfl
  t173 := by kernel_rfl
  a173 := fun w => by kernel_rfl
  z173 := fun w => by kernel_rfl
  v173 := fun w => by kernel_rfl
  t175 := by kernel_rfl
  a175 := fun w => by kernel_rfl
  z175 := fun w => by kernel_rfl
  v175 := fun w => by kernel_rfl
  t210 := by kernel_rfl
  a210 := fun w => by kernel_rfl
  z210 := fun w => by kernel_rfl
  v210 := fun w => by kernel_rfl
  t212 := by kernel_rfl
  a212 := fun w => by kernel_rfl
  z212 := fun w => by kernel_rfl
  v212 := fun w => by kernel_rfl
  t213 := by kernel_rfl
  a213 := fun w => by kernel_rfl
  z213 := fun w => by kernel_rfl
  t232 := by kernel_rfl
  a232 := fun w => by kernel_rfl
  z232 := fun w => by kernel_rfl
  v232 := fun w => by kernel_rfl
  t233 := by kernel_rfl
  a233 := fun w => by kernel_rfl
  z233 := fun w => by kernel_rfl
  v233 := fun w => by kernel_rfl
  g15 := by kernel_rfl
  g16 := by kernel_rfl
  g17 := by kernel_rfl
  g18 := by kernel_rfl
  g19 := by kernel_rfl
  t80 := by kernel_rfl
  a80 := fun w => by kernel_rfl
  z80 := fun w => by kernel_rfl
  v80 := fun w => by kernel_rfl
  i0 := by kernel_rfl
  i2 := by kernel_rfl
  i3 := by kernel_rfl
  i4 := by kernel_rfl
  i5 := by kernel_rfl
  i9 := by kernel_rfl
  i20 := by kernel_rfl
  i21 := by kernel_rfl
  i37 := by kernel_rfl
  i46 := by kernel_rfl
  i51 := by kernel_rfl
  i53 := by kernel_rfl
  i75 := by kernel_rfl
  i76 := by kernel_rfl
  i80 := by kernel_rfl
  i85 := by kernel_rfl
  i127 := by kernel_rfl
  i143 := by kernel_rfl
  i145 := by kernel_rfl
  i167 := by kernel_rfl
  i168 := by kernel_rfl
  i171 := by kernel_rfl
  i173 := by kernel_rfl
  i175 := by kernel_rfl
  i210 := by kernel_rfl
  i212 := by kernel_rfl
  i232 := by kernel_rfl
  i233 := by kernel_rfl
  m15 := by kernel_rfl
  m16 := by kernel_rfl
  m17 := by kernel_rfl
  m18 := by kernel_rfl
  m19 := by kernel_rfl
  c0 := by kernel_rfl
  c2 := by kernel_rfl
  c3 := by kernel_rfl
  c4 := by kernel_rfl
  c5 := by kernel_rfl
  c9 := by kernel_rfl
  c20 := by kernel_rfl
  c21 := by kernel_rfl
  c37 := by kernel_rfl
  c46 := by kernel_rfl
  c51 := by kernel_rfl
  c53 := by kernel_rfl
  c75 := by kernel_rfl
  c76 := by kernel_rfl
  c80 := by kernel_rfl
  c85 := by kernel_rfl
  c127 := by kernel_rfl
  c143 := by kernel_rfl
  c145 := by kernel_rfl
  c167 := by kernel_rfl
  c168 := by kernel_rfl
  c171 := by kernel_rfl
  c173 := by kernel_rfl
  c175 := by kernel_rfl
  c210 := by kernel_rfl
  c212 := by kernel_rfl
  c213 := by kernel_rfl
  c232 := by kernel_rfl
  c233 := by kernel_rfl }

/-- the library's two variables for such errors hold errors -/
structure ErrV (w : World) : Prop where
  es : ∃ t p, w.cell? ⟨atoR.g 15, 0, none⟩ = some (.iface t p)
  er : ∃ t p, w.cell? ⟨atoR.g 16, 0, none⟩ = some (.iface t p)
theorem cell_upd {w w' : World} {L : Heap} {a : Addr} {v : Value} (h : w.cell? a = some v) (hw : Upd w [] w' L) : w'.cell? a = some v :=
  (Below.cell ⟨hw.os, hw.tape, hw.output, hw.size, fun k hk => hw.old k hk (by simp)⟩ (Lib.lt_of_cell h)).trans h
theorem ErrV.upd {w w' : World} {L : Heap} (h : ErrV w) (hw : Upd w [] w' L) : ErrV w' := by
  obtain ⟨⟨t, p, h1⟩, t2, p2, h2⟩ := h
  exact ⟨⟨t, p, cell_upd h1 hw⟩, t2, p2, cell_upd h2 hw⟩
/-- an error, or none -/
def IfB (e : Value) (b : Bool) : Prop := (e = .nilIface ∧ b = false) ∨ ((∃ t p, e = .iface t p) ∧ b = true)
def AtR (s : List UInt8) (x : Int) (b : Bool) : Prop := (b = false → Lib.atoiAll s = .ok x) ∧ (b = true → ∀ y, Lib.atoiAll s ≠ .ok y)
theorem at_Atoi (s : List UInt8) (w : World) (hs : s.length ≤ 1073741824) (he : ErrV w) : Fn Tryd.prog 95 [.string (S s)] w [] fun v L' => (∃ x e b, v = .tuple #[.int .i64 x, e] ∧ IfB e b ∧ AtR s x b) ∧ L' = [] := by
  obtain ⟨⟨t, p, h1⟩, t2, p2, h2⟩ := he
  have hsz : (S s).size = s.length := by simp [S, ByteArray.size]
  have hda : (S s).data.toList = s := by simp [S]
  have hU : ∀ {w' : World}, Below w.heap.size w w' → Upd w [] w' [] := fun hb => ⟨hb.os, hb.tape, hb.output, hb.size, fun k hk _ => hb.block k hk, by simp, by simp, by simp⟩
  cases hr : Lib.atoiAll s with
  | ok v =>
    refine Calls.mono (Any.strconv_Atoi_ok atoL (S s) (by omega) v (by rw [hda]; exact hr) w) fun e w' ⟨e1, hw⟩ => ⟨_, [], e1, ⟨⟨v, .nilIface, false, rfl, .inl ⟨rfl, rfl⟩, ⟨fun _ => hr, fun h => by cases h⟩⟩, rfl⟩, ?_⟩
    have hb : Below w.heap.size w w' := by
      rcases hw with rfl | ⟨t, rfl⟩
      · exact Below.refl _ _
      · exact Lib.bytesWorld_below _ _ _
    exact hU hb
  | «syntax» =>
    refine Calls.mono (Any.strconv_Atoi_syntax atoL (S s) (by omega) (by rw [hda]; exact hr) _ w h1 (.inr ⟨_, _, rfl⟩)) fun e w' ⟨N, e1, _, _, hb⟩ => ⟨_, [], e1, ⟨⟨_, _, true, rfl, .inr ⟨⟨_, _, rfl⟩, rfl⟩, ⟨fun h => (by cases h), fun _ y hy => (by rw [hr] at hy; cases hy)⟩⟩, rfl⟩, hU hb⟩
  | range =>
    refine Calls.mono (Any.strconv_Atoi_range atoL (S s) (by omega) (by rw [hda]; exact hr) _ w h2 (.inr ⟨_, _, rfl⟩)) fun e w' ⟨N, e1, _, _, hb⟩ => ⟨_, [], e1, ⟨⟨_, _, true, rfl, .inr ⟨⟨_, _, rfl⟩, rfl⟩, ⟨fun h => (by cases h), fun _ y hy => (by rw [hr] at hy; cases hy)⟩⟩, rfl⟩, hU hb⟩
section
variable {P : Program} {ρ : Operand → Value} {D : Option Tmp} {d n : Nat} {w0 w : World} {L0 L L' : Heap} {all rest : List Oper} {E : Env} {Q : Post} {x y z : Operand} {T T' U ty : TypeId} {pos : String} {aft : Array Edge} {g : Option (Nat × Bool)} {G : Bool}
theorem run_eqfD (k : Nat) {ms : Array (String × TypeId)} {t : TypeId} {p : Value} (hT : P.underlying T = some (.interface ms)) : (Op.equalIn (k + 1) T (.iface t p) .nilIface).run P w = .ok false w := by
  simp [Op.equalIn, run_underlying hT]
theorem run_eqf {ms : Array (String × TypeId)} {t : TypeId} {p : Value} (hT : P.underlying T = some (.interface ms)) : (Op.equal T (.iface t p) .nilIface).run P w = .ok false w := run_eqfD 9999 hT
theorem run_eqnD (k : Nat) {ms : Array (String × TypeId)} (hT : P.underlying T = some (.interface ms)) : (Op.equalIn (k + 1) T .nilIface .nilIface).run P w = .ok true w := by
  simp [Op.equalIn, run_underlying hT]
theorem run_eqn {ms : Array (String × TypeId)} (hT : P.underlying T = some (.interface ms)) : (Op.equal T .nilIface .nilIface).run P w = .ok true w := run_eqnD 9999 hT
theorem r_neF {e : Value} {b : Bool} (hT : ∃ ms, P.underlying T = some (.interface ms)) (hx : ρ x = e) (hy : ρ (.const .nilIface) = .nilIface) (hb : IfB e b) : (execOp ρ ⟨D, .binOp .neq T x (.const .nilIface) T', ty, pos, aft, g⟩).run P w = .ok (.value (.bool b)) w := by
  obtain ⟨ms, hT⟩ := hT
  rcases hb with ⟨rfl, rfl⟩ | ⟨⟨t, p, rfl⟩, rfl⟩
  · simp [execOp, hx, hy, go_sem, binOp, Sem.run_bind, eqGuard, run_eqn hT]
  · simp [execOp, hx, hy, go_sem, binOp, Sem.run_bind, eqGuard, run_eqf hT]
/-- an error against none -/
theorem O.neF {e : Value} {b : Bool} (hT : ∃ ms, P.underlying T = some (.interface ms)) (hb : IfB e b) (hp : Pre n all E g d G := by exact ⟨rfl, rfl⟩) (hx : Val G E x e := by first | exact vt rfl | exact vs rfl) (hy : Val G E (.const .nilIface) .nilIface := by first | exact vt rfl | exact vs rfl) : QV P n w0 L0 all ⟨some d, .binOp .neq T x (.const .nilIface) T', ty, pos, aft, g⟩ E L d G (.bool b) :=
  O.val rfl hp (fun hG a w ha hw => by rw [r_neF hT (hx.eval hG ha) (hy.eval hG ha) hb])
end
end Go.Proofs.YtagiajnpnjakhaaDoor
