/- What the proof of this claim needs: part MG. No conditions. -/
import Derived.Test.YtmahogkfgjibjaaGreatDoorMK
import Derived.OpenShut
import Derived.ReadAgain
import Derived.WalkKit
import Derived.ProofKit
import Derived.Deep.Slices
import Derived.LaidMore
import Derived.LaidLaws
import Derived.LaidHandle
import Derived.WideKeyElems2
set_option linter.unusedVariables false
set_option linter.unusedSimpArgs false

namespace Go.Ev
open Go Go.RowKit Go.Proofs Go.Proofs.YtmahogkfgjibjaaGreatDoor Go.ChangeShapes Go.WideShapes Go.ChangeAt

theorem und3 : Tryz.prog.underlying 3 = some (.int .i64) := by kernel_rfl
theorem und22 : Tryz.prog.underlying 22 = some (.int .u64) := by kernel_rfl
theorem und4 : Tryz.prog.underlying 4 = some .bool := by kernel_rfl
theorem g_spans : Tryz.prog.globalNamed "turnspit/packed.spans" = some 3 := by kernel_rfl
theorem g_empty : Tryz.prog.globalNamed "turnspit/tree.empty" = some 1 := by kernel_rfl
theorem g_weights : Tryz.prog.globalNamed "turnspit/weight.weights" = some 4 := by kernel_rfl
theorem g_kinds : Tryz.prog.globalNamed "turnspit/crit.kinds" = some 0 := by kernel_rfl
theorem g_rules : Tryz.prog.globalNamed "turnspit/life.rules" = some 2 := by kernel_rfl
theorem own : ownKnob Tryz.prog.godebug = none := by kernel_rfl
theorem t_spans : (Tryz.prog.globals[3]?).map (·.type) = some 200 := by kernel_rfl
theorem t_empty : (Tryz.prog.globals[1]?).map (·.type) = some 69 := by kernel_rfl
theorem t_weights : (Tryz.prog.globals[4]?).map (·.type) = some 209 := by kernel_rfl
theorem u200 : Tryz.prog.underlying 200 = some (.array 5 86) := by kernel_rfl
theorem u86 : Tryz.prog.underlying 86 = some (.array 2 3) := by kernel_rfl
theorem u209 : Tryz.prog.underlying 209 = some (.array 40 3) := by kernel_rfl
theorem co3 : Tryz.prog.cellsOf 3 = 1 := by kernel_rfl
theorem co4 : Tryz.prog.cellsOf 4 = 1 := by kernel_rfl
theorem co22 : Tryz.prog.cellsOf 22 = 1 := by kernel_rfl
theorem co86 : Tryz.prog.cellsOf 86 = 2 := by kernel_rfl
theorem co200 : Tryz.prog.cellsOf 200 = 10 := by kernel_rfl
theorem co209 : Tryz.prog.cellsOf 209 = 40 := by kernel_rfl
theorem co69 : Tryz.prog.cellsOf 69 = 6 := by kernel_rfl

section
variable {H : Type} {enc : TypeId × Value → H} {W : World} {base : Nat} {sp : Nat → Bool} {hd : Bool} {n : Nat}
theorem trod3_eq {cs : List Value} {a : Int} {p : List MemPlace} (h : DataW.trod enc Tryz.prog W base sp hd n 3 cs = some (.lit (.int .i64 a), p)) : cs = [.int .i64 a] := by
  obtain ⟨b, h1, h2, _⟩ := DataW.trod_int und3 h
  simp only [Prod.mk.injEq, DataW.lit.injEq, Lit.int.injEq] at h2
  rw [h1, h2.1.2]
theorem trod22_eq {cs : List Value} {a : Int} {p : List MemPlace} (h : DataW.trod enc Tryz.prog W base sp hd n 22 cs = some (.lit (.int .u64 a), p)) : cs = [.int .u64 a] := by
  obtain ⟨b, h1, h2, _⟩ := DataW.trod_int und22 h
  simp only [Prod.mk.injEq, DataW.lit.injEq, Lit.int.injEq] at h2
  rw [h1, h2.1.2]
theorem trod4_eq {cs : List Value} {a : Bool} {p : List MemPlace} (h : DataW.trod enc Tryz.prog W base sp hd n 4 cs = some (.lit (.bool a), p)) : cs = [.bool a] := by
  obtain ⟨b, h1, h2⟩ := DataW.trod_bool und4 h
  simp only [Prod.mk.injEq, DataW.lit.injEq, Lit.bool.injEq] at h2
  rw [h1, h2.1]
/-- a row of numbers -/
theorem trod_ints {t k : Nat} {cs : List Value} {l : List Int} {p : List MemPlace} (ht : Tryz.prog.underlying t = some (.array k 3)) (hc : Tryz.prog.cellsOf t = k)
    (h : DataW.trod enc Tryz.prog W base sp hd n t cs = some (.agg (l.map fun i => .lit (.int .i64 i)), p)) : cs = l.map (.int .i64) := by
  obtain ⟨xs, m, _, hx, hl, hn, hel⟩ := DataW.trod_array ht h
  simp only [Prod.mk.injEq, DataW.agg.injEq] at hx
  have hll : l.length = k := by
    have := congrArg List.length hx.1
    simp at this; omega
  apply List.ext_getElem?
  intro i
  by_cases hi : i < k
  · have e := hel i hi
    rw [co3] at e
    have hxi : ∃ x, xs[i]? = some x := ⟨_, List.getElem?_eq_getElem (by omega)⟩
    obtain ⟨⟨d, q⟩, hxi⟩ := hxi
    rw [hxi] at e
    have hd' : (xs.map (·.1))[i]? = some d := by simp [hxi]
    rw [← hx.1] at hd'
    have hli : l[i]? = some l[i] := List.getElem?_eq_getElem (by omega)
    simp only [List.getElem?_map, hli, Option.map_some, Option.some.injEq] at hd'
    subst hd'
    have := trod3_eq e
    simp only [Nat.mul_one] at this
    have h0 : ((cs.drop i).take 1)[0]? = some (.int .i64 l[i]) := by rw [this]; rfl
    simp only [List.getElem?_map, hli, Option.map_some]
    rw [List.getElem?_take_of_lt (by omega), List.getElem?_drop] at h0
    simpa using h0
  · rw [List.getElem?_eq_none (by omega), List.getElem?_eq_none (by simp; omega)]
end

theorem len5 {α : Type} {l : List α} (h : l.length = 5) : ∃ a b c d e, l = [a, b, c, d, e] := by
  match l, h with
  | [a, b, c, d, e], _ => exact ⟨a, b, c, d, e, rfl⟩
theorem len6 {α : Type} {l : List α} (h : l.length = 6) : ∃ a b c d e f, l = [a, b, c, d, e, f] := by
  match l, h with
  | [a, b, c, d, e, f], _ => exact ⟨a, b, c, d, e, f, rfl⟩
theorem len10 {α : Type} {l : List α} (h : l.length = 10) : ∃ a b c d e f g i j k, l = [a, b, c, d, e, f, g, i, j, k] := by
  match l, h with
  | [a, b, c, d, e, f, g, i, j, k], _ => exact ⟨a, b, c, d, e, f, g, i, j, k, rfl⟩
section
variable {H : Type} {enc : TypeId × Value → H} {W : World} {base : Nat} {sp : Nat → Bool} {hd : Bool} {n : Nat}
theorem trod_spans {cs : List Value} {p : List MemPlace} (h : DataW.trod enc Tryz.prog W base sp hd n 200 cs = some (@Rows.laid_turnspit_packed_spans H, p)) : cs = [0, 3, 3, 9, 9, 10, 10, 26, 26, 58].map (.int .i64) := by
  obtain ⟨xs, m, _, hx, hl, hn, hel⟩ := DataW.trod_array u200 h
  rw [co200] at hl
  obtain ⟨a, b, c, d, e, f, g, i, j, k, rfl⟩ := len10 hl
  obtain ⟨⟨x0, y0⟩, ⟨x1, y1⟩, ⟨x2, y2⟩, ⟨x3, y3⟩, ⟨x4, y4⟩, rfl⟩ := len5 hn
  simp only [Rows.laid_turnspit_packed_spans, List.map_cons, List.map_nil, Prod.mk.injEq, DataW.agg.injEq, List.cons.injEq, and_true] at hx
  obtain ⟨⟨rfl, rfl, rfl, rfl, rfl⟩, _⟩ := hx
  have g0 := hel 0 (by omega)
  have g1 := hel 1 (by omega)
  have g2 := hel 2 (by omega)
  have g3 := hel 3 (by omega)
  have g4 := hel 4 (by omega)
  simp [co86] at g0 g1 g2 g3 g4
  have r0 := trod_ints (l := [0, 3]) u86 co86 g0
  have r1 := trod_ints (l := [3, 9]) u86 co86 g1
  have r2 := trod_ints (l := [9, 10]) u86 co86 g2
  have r3 := trod_ints (l := [10, 26]) u86 co86 g3
  have r4 := trod_ints (l := [26, 58]) u86 co86 g4
  simp at r0 r1 r2 r3 r4
  simp [r0, r1, r2, r3, r4]
theorem trod_empty {cs : List Value} {p : List MemPlace} (h : DataW.trod enc Tryz.prog W base sp hd n 69 cs = some (@Rows.laid_turnspit_tree_empty H, p)) : cs = [.bool false, .bool false, .int .u64 0, .int .i64 (-1), .int .i64 (-1), .int .i64 (-1)] := by
  obtain ⟨xs, m, _, hx, hl, hn, hel⟩ := DataW.trod_struct Tryz.underlying69 h
  rw [co69] at hl
  obtain ⟨a, b, c, d, e, f, rfl⟩ := len6 hl
  obtain ⟨⟨x0, y0⟩, ⟨x1, y1⟩, ⟨x2, y2⟩, ⟨x3, y3⟩, ⟨x4, y4⟩, ⟨x5, y5⟩, rfl⟩ := len6 (l := xs) hn
  simp only [Rows.laid_turnspit_tree_empty, List.map_cons, List.map_nil, Prod.mk.injEq, DataW.agg.injEq, List.cons.injEq, and_true] at hx
  obtain ⟨⟨rfl, rfl, rfl, rfl, rfl, rfl⟩, _⟩ := hx
  have g0 := hel 0 _ rfl
  have g1 := hel 1 _ rfl
  have g2 := hel 2 _ rfl
  have g3 := hel 3 _ rfl
  have g4 := hel 4 _ rfl
  have g5 := hel 5 _ rfl
  simp [co3, co4, co22] at g0 g1 g2 g3 g4 g5
  have r0 := trod4_eq g0
  have r1 := trod4_eq g1
  have r2 := trod22_eq g2
  have r3 := trod3_eq g3
  have r4 := trod3_eq g4
  have r5 := trod3_eq g5
  simp at r0 r1 r2 r3 r4 r5
  simp [r0, r1, r2, r3, r4, r5]
def weightsL : List Int := [88761, 71755, 56483, 46273, 36291, 29154, 23254, 18705, 14949, 11916, 9548, 7620, 6100, 4904, 3906, 3121, 2501, 1991, 1586, 1277, 1024, 820, 655, 526, 423, 335, 272, 215, 172, 137, 110, 87, 70, 56, 45, 36, 29, 23, 18, 15]
theorem trod_weights {cs : List Value} {p : List MemPlace} (h : DataW.trod enc Tryz.prog W base sp hd n 209 cs = some (@Rows.laid_turnspit_weight_weights H, p)) : cs = weightsL.map (.int .i64) :=
  trod_ints (l := weightsL) u209 co209 h
end
abbrev laidL : List (String × DataW Unit) := [("turnspit/packed.spans", Rows.laid_turnspit_packed_spans), ("turnspit/life.rules", Rows.laid_turnspit_life_rules), ("turnspit/tree.empty", Rows.laid_turnspit_tree_empty), ("turnspit/weight.weights", Rows.laid_turnspit_weight_weights), ("turnspit/crit.kinds", Rows.laid_turnspit_crit_kinds)]
abbrev laidP : List (String × DataW Unit) := [("turnspit/packed.spans", Rows.laid_turnspit_packed_spans), ("turnspit/tree.empty", Rows.laid_turnspit_tree_empty), ("turnspit/weight.weights", Rows.laid_turnspit_weight_weights)]
theorem plain_of_laid {W : World} (h : laidMetH Tryz.prog laidL W) : laidMet Tryz.prog laidP W := by
  have e1 : (laidL.filter fun x => x.2.handleName?.isSome) = [("turnspit/life.rules", Rows.laid_turnspit_life_rules), ("turnspit/crit.kinds", Rows.laid_turnspit_crit_kinds)] := rfl
  have e2 : (laidL.filter fun x => x.2.handleName?.isNone) = laidP := rfl
  unfold laidMetH at h
  rw [e1] at h
  exact e2 ▸ h.1
/-- what the condition gives: the tables' cells -/
theorem glob_of_laid {W : World} (h : laidMetH Tryz.prog laidL W) : (∀ (j : Nat) x, ([0, 3, 3, 9, 9, 10, 10, 26, 26, 58].map (Value.int .i64))[j]? = some x → W.cell? (at_ 3 j) = some x) ∧
    (∀ (j : Nat) x, [Value.bool false, .bool false, .int .u64 0, .int .i64 (-1), .int .i64 (-1), .int .i64 (-1)][j]? = some x → W.cell? (at_ 1 j) = some x) ∧
    (∀ (j : Nat) x, (weightsL.map (Value.int .i64))[j]? = some x → W.cell? (at_ 4 j) = some x) := by
  have h := plain_of_laid h
  obtain ⟨ps, ⟨g0, t0, cs0, f0, p0, q0, hg0, ht0, hv0, hd0, ⟨g1, t1, cs1, f1, p1, q1, hg1, ht1, hv1, hd1, ⟨g2, t2, cs2, f2, p2, q2, hg2, ht2, hv2, hd2, _, _⟩, _⟩, _⟩, _, _⟩ := h
  obtain rfl := Option.some.inj (g_spans.symm.trans hg0)
  obtain rfl := Option.some.inj (g_empty.symm.trans hg1)
  obtain rfl := Option.some.inj (g_weights.symm.trans hg2)
  obtain rfl := Option.some.inj (t_spans.symm.trans ht0)
  obtain rfl := Option.some.inj (t_empty.symm.trans ht1)
  obtain rfl := Option.some.inj (t_weights.symm.trans ht2)
  have r0 := trod_spans hd0
  have r1 := trod_empty hd1
  have r2 := trod_weights hd2
  refine ⟨fun j x hx => ?_, fun j x hx => ?_, fun j x hx => ?_⟩
  · have := World.var?_cell hg0 hv0 j
    rw [← Array.getElem?_toList, r0] at this
    exact this.trans hx
  · have := World.var?_cell hg1 hv1 j
    rw [← Array.getElem?_toList, r1] at this
    exact this.trans hx
  · have := World.var?_cell hg2 hv2 j
    rw [← Array.getElem?_toList, r2] at this
    exact this.trans hx
end Go.Ev

namespace Go.Ev
open Go Go.RowKit Go.Proofs Go.Proofs.YtmahogkfgjibjaaGreatDoor Go.ChangeShapes Go.WideShapes Go.ChangeAt

abbrev DB := DataW (List UInt8)
abbrev FW (W : World) : Nat → Nat → Prop := fun b _ => b < W.heap.size
theorem cell_lt {W : World} {b o : Nat} {x : Value} (h : W.cell? (at_ b o) = some x) : b < W.heap.size := by
  unfold World.cell? at h
  cases e : W.heap[b]? with
  | none => simp [e] at h
  | some x => exact (Array.getElem?_eq_some_iff.1 e).1
def utf (s : String) : List UInt8 := s.toUTF8.data.toList
def nameL : List (List UInt8 × Nat) := [("turnspit/life.rules$1", 250), ("turnspit/life.rules$2", 251), ("turnspit/life.rules$3", 252), ("turnspit/life.plain", 253), ("turnspit/life.rules$4", 254), ("turnspit/life.noted", 255), ("turnspit/life.at", 256),
  ("turnspit/crit.last", 167), ("(*turnspit/crit.work).create", 168), ("turnspit/crit.its", 169), ("(*turnspit/crit.work).exit", 170), ("turnspit/crit.one", 171), ("(*turnspit/crit.work).block", 172), ("(*turnspit/crit.work).yield", 173), ("(*turnspit/crit.work).tick", 174), ("(*turnspit/crit.work).pick", 175),
  ("turnspit/crit.to", 176), ("(*turnspit/crit.work).migrate", 177), ("turnspit/crit.away", 178), ("(*turnspit/crit.work).mask", 179), ("(*turnspit/crit.work).nice", 180), ("turnspit/crit.both", 181), ("(*turnspit/crit.work).balance", 182), ("(*turnspit/crit.work).stop", 183)].map fun p => (utf p.1, p.2)
def lookN (name : List UInt8) : List (List UInt8 × Nat) → Option Nat
  | [] => none
  | p :: r => if name == p.1 then some p.2 else lookN name r
theorem lookN_mem {name : List UInt8} {f : Nat} : ∀ {l : List (List UInt8 × Nat)}, lookN name l = some f → (name, f) ∈ l
  | [], h => by cases h
  | p :: r, h => by
    simp only [lookN] at h
    split at h
    · rename_i e
      have e : name = p.1 := by simpa using e
      simp only [Option.some.injEq] at h
      subst e; subst h
      exact List.mem_cons_self ..
    · exact List.mem_cons_of_mem _ (lookN_mem h)
noncomputable def oneNamed (name : List UInt8) (f : Nat) : Bool := ((List.range Tryz.prog.funcs.size).filter fun f => (Tryz.prog.funcs[f]?).any (·.name.toUTF8.data.toList == name)) == [f] && !name.isEmpty
theorem names_one : (nameL.all fun p => oneNamed p.1 p.2) = true := by kernel_rfl

/-- a datum of one cell, as data by value -/
def cellOf : DB → Option DV
  | .lit (.bool b) => some (db b)
  | .lit (.int .i64 n) => some (di n)
  | .nil => some fnil
  | .held name => match lookN name nameL with
    | some f => some (fcell f)
    | none => none
  | .slice elems [] => match allSome (fun d : DB => match d with | .lit (.int .i64 n) => some n | _ => none) elems with
    | some (k :: l) => some (ofG (k :: l))
    | _ => none
  | _ => none
theorem allSome_at {α β : Type} {f : α → Option β} : ∀ {l : List α} {r : List β}, allSome f l = some r → l.length = r.length ∧ ∀ (i : Nat) a, l[i]? = some a → ∃ b, f a = some b ∧ r[i]? = some b
  | [], r, h => by simp [allSome] at h; subst h; exact ⟨rfl, fun i a h => by simp at h⟩
  | x :: l, r, h => by
    simp only [allSome] at h
    cases e1 : f x with
    | none => simp [e1] at h
    | some b =>
      cases e2 : allSome f l with
      | none => simp [e1, e2] at h
      | some l' =>
        simp only [e1, e2, Option.some.injEq] at h
        subst h
        obtain ⟨h1, h2⟩ := allSome_at e2
        refine ⟨by simp [h1], fun i a ha => ?_⟩
        cases i with
        | zero => simp at ha; subst ha; exact ⟨b, e1, rfl⟩
        | succ i => simpa using h2 i a (by simpa using ha)

section
variable {W : World} {sp : Nat → Bool} {n : Nat}
def flatT (t : Nat) : Bool := decide (t = 3 ∨ t = 4 ∨ t = 30 ∨ (t = 81 ∨ t = 82 ∨ t = 168 ∨ t = 169))
theorem u30 : Tryz.prog.underlying 30 = some (.slice 3) := by kernel_rfl
theorem isFunc {t : TypeId} (h : t = 81 ∨ t = 82 ∨ t = 168 ∨ t = 169) : ∃ ps rs va, Tryz.prog.underlying t = some (.func ps rs va) := by
  rcases h with rfl | rfl | rfl | rfl
  · exact ⟨_, _, _, (by kernel_rfl : Tryz.prog.underlying 81 = some (.func #[79, 63, 3] #[86] false))⟩
  · exact ⟨_, _, _, (by kernel_rfl : Tryz.prog.underlying 82 = some (.func #[79, 63, 86] #[88] false))⟩
  · exact ⟨_, _, _, (by kernel_rfl : Tryz.prog.underlying 168 = some (.func ((match Tryz.prog.underlying 168 with | some (.func a _ _) => a | _ => #[])) ((match Tryz.prog.underlying 168 with | some (.func _ a _) => a | _ => #[])) false))⟩
  · exact ⟨_, _, _, (by kernel_rfl : Tryz.prog.underlying 169 = some (.func ((match Tryz.prog.underlying 169 with | some (.func a _ _) => a | _ => #[])) ((match Tryz.prog.underlying 169 with | some (.func _ a _) => a | _ => #[])) false))⟩
theorem cellOf_out {t : TypeId} {cs : List Value} {d : DB} {p : List MemPlace} {y : DV} (ht : flatT t = true) (h : DataW.trod (funcToken Tryz.prog) Tryz.prog W 0 sp true n t cs = some (d, p)) (hy : cellOf d = some y) :
    (t = 30 → d ≠ .nil) → ∃ x, cs = [x] ∧ RD (FW W) W y x := by
  intro hnil
  have hcase : t = 3 ∨ t = 4 ∨ t = 30 ∨ (t = 81 ∨ t = 82 ∨ t = 168 ∨ t = 169) := of_decide_eq_true ht
  rcases hcase with rfl | rfl | rfl | hf
  · obtain ⟨a, rfl, hx, _⟩ := DataW.trod_int und3 h
    simp only [Prod.mk.injEq] at hx
    obtain ⟨rfl, _⟩ := hx
    simp only [cellOf, Option.some.injEq] at hy
    subst hy
    exact ⟨_, rfl, .v _ rfl⟩
  · obtain ⟨a, rfl, hx⟩ := DataW.trod_bool und4 h
    simp only [Prod.mk.injEq] at hx
    obtain ⟨rfl, _⟩ := hx
    simp only [cellOf, Option.some.injEq] at hy
    subst hy
    exact ⟨_, rfl, .v _ rfl⟩
  · unfold cellOf at hy
    split at hy
    · rcases Go.Deep.open_slice u30 h with ⟨_, e⟩ | ⟨_, _, _, _, _, _, _, _, _, _, _, _, e, _⟩ <;> simp at e
    · rcases Go.Deep.open_slice u30 h with ⟨_, e⟩ | ⟨_, _, _, _, _, _, _, _, _, _, _, _, e, _⟩ <;> simp at e
    · exact absurd rfl (hnil rfl)
    · rcases Go.Deep.open_slice u30 h with ⟨_, e⟩ | ⟨_, _, _, _, _, _, _, _, _, _, _, _, e, _⟩ <;> simp at e
    · rename_i elems
      split at hy
      · rename_i k0 l0 hl
        simp only [Option.some.injEq] at hy
        subst hy
        generalize hll : k0 :: l0 = l at hl
        have hk0 : l[0]? = some k0 := by rw [← hll]; rfl
        obtain ⟨a, cap, rfl, hcap, hel⟩ := open_row u30 co3 h
        obtain ⟨hlen, hat⟩ := allSome_at hl
        have hcell : ∀ (i : Nat) k, l[i]? = some k → W.cell? (a.add i) = some (.int .i64 k) := by
          intro i k hk
          have hi : i < elems.length := by rw [hlen]; exact (List.getElem?_eq_some_iff.1 hk).1
          obtain ⟨b, hb, hb2⟩ := hat i elems[i] (List.getElem?_eq_getElem hi)
          rw [hk] at hb2
          simp only [Option.some.injEq] at hb2
          subst hb2
          obtain ⟨v, m, q, hc, hv⟩ := hel i elems[i] (List.getElem?_eq_getElem hi)
          split at hb
          · rename_i k' he
            simp only [Option.some.injEq] at hb
            subst hb
            rw [he] at hv
            obtain ⟨a', h1, h2, _⟩ := DataW.trod_int und3 hv
            simp only [List.cons.injEq, and_true] at h1
            simp only [Prod.mk.injEq, DataW.lit.injEq, Lit.int.injEq] at h2
            rw [hc, h1, ← h2.1.2]
          · cases hb
        obtain ⟨b, o, s⟩ := a
        have hs : s = none := by simpa [Addr.add] using World.cell?_spot (hcell 0 k0 hk0)
        subst hs
        refine ⟨_, rfl, .sl 1 false _ b o _ cap (fun i _ => .int .i64 ((l[i]?).getD 0)) (by simp [hlen]) hcap (fun h => by cases h) (fun i r hr => ?_) (fun i j r hr hj => ?_) (fun i j r y hr hy => ?_)⟩
        · simp only [List.getElem?_map, Option.map_eq_some_iff] at hr
          obtain ⟨k, _, rfl⟩ := hr
          rfl
        · simp only [List.getElem?_map, Option.map_eq_some_iff] at hr
          obtain ⟨k, hk, rfl⟩ := hr
          obtain rfl : j = 0 := by omega
          have := hcell i k hk
          have e1 : Addr.add (⟨b, o, none⟩ : Addr) i = at_ b (o + i * 1 + 0) := by
            simp only [Addr.add, at_]
            split
            · rename_i h0; simp [h0]
            · simp
          rw [e1] at this
          have e : W.cell? (at_ b (o + i * 1 + 0)) = some (.int .i64 ((l[i]?).getD 0)) := by rw [hk]; exact this
          exact ⟨e, cell_lt e⟩
        · simp only [List.getElem?_map, Option.map_eq_some_iff] at hr
          obtain ⟨k, hk, rfl⟩ := hr
          match j, hy with
          | 0, hy =>
            simp at hy
            subst hy
            rw [hk]
            exact .v _ rfl
          | j + 1, hy => simp at hy
      · cases hy
    · cases hy
  · obtain ⟨ps, rs, va, hu⟩ := isFunc hf
    unfold cellOf at hy
    have hfn : ∀ c : DB × List MemPlace, DataW.trod (funcToken Tryz.prog) Tryz.prog W 0 sp true n t cs = some c → (c.1 = .nil ∧ cs = [.nilFunc]) ∨ ∃ (v : Value) (name : List UInt8), cs = [v] ∧ c.1 = .held name := by
      intro c hc
      cases n with
      | zero => simp [DataW.trod] at hc
      | succ n =>
        unfold DataW.trod at hc
        rw [hu] at hc
        split at hc <;> simp_all
        · subst hc; exact .inl rfl
        · subst hc; exact ⟨_, rfl⟩
    split at hy
    · rcases hfn _ h with ⟨e, _⟩ | ⟨_, _, _, e⟩ <;> simp at e
    · rcases hfn _ h with ⟨e, _⟩ | ⟨_, _, _, e⟩ <;> simp at e
    · simp only [Option.some.injEq] at hy
      subst hy
      rcases hfn _ h with ⟨_, e⟩ | ⟨_, _, _, e⟩
      · exact ⟨_, e, .v _ rfl⟩
      · simp at e
    · rename_i name
      split at hy
      · rename_i f hl
        simp only [Option.some.injEq] at hy
        subst hy
        rcases hfn _ h with ⟨e, _⟩ | ⟨v, _, rfl, e⟩
        · simp at e
        have hm := lookN_mem hl
        have hone := List.all_eq_true.1 names_one _ hm
        unfold oneNamed at hone
        simp only [Bool.and_eq_true, beq_iff_eq, Bool.not_eq_true', List.isEmpty_eq_false_iff] at hone
        obtain ⟨hone, hne⟩ := hone
        cases name with
        | nil => exact absurd rfl hne
        | cons b r =>
          obtain rfl := Go.func_of_trod hu hone h
          exact ⟨_, rfl, .v _ rfl⟩
      · cases hy
    · rcases hfn _ h with ⟨e, _⟩ | ⟨_, _, _, e⟩ <;> simp at e
    · cases hy
end
end Go.Ev

namespace Go.Ev
open Go Go.RowKit Go.Proofs Go.Proofs.YtmahogkfgjibjaaGreatDoor Go.ChangeShapes Go.WideShapes Go.ChangeAt Go.WideElems Go.MapKept

def slFirst : List DB → Bool
  | .nil :: _ => false
  | _ => true
def entOfD (y : Lit × DB) : Option (Value × Bool × List DV) :=
  match y with
  | (.int .i64 k, .agg parts) => if slFirst parts then (match allSome cellOf parts with
    | some ds => some (.int .i64 k, true, ds)
    | none => none) else none
  | _ => none
structure Flat (e : Nat) (fs : Array Field) : Prop where
  und : Tryz.prog.underlying e = some (.struct fs)
  cells : Tryz.prog.cellsOf e = fs.size
  at_ : ∀ (i : Nat) (f : Field), fs[i]? = some f → f.offset = i ∧ Tryz.prog.cellsOf f.type = 1 ∧ flatT f.type = true ∧ (f.type = 30 → i = 0)
section
variable {W : World} {sp : Nat → Bool} {n : Nat}
theorem ent_out {e : Nat} {fs : Array Field} (hf : Flat e fs) {m : MapEntry} {y : Lit × DB} {E : Value × Bool × List DV}
    (hr : rd Tryz.prog 3 (elemAt (funcToken Tryz.prog) Tryz.prog W 0 sp true n e) m = some y) (hE : entOfD y = some E) :
    m.key = E.1 ∧ E.2.1 = true ∧ ∃ vs, m.val = .agg vs ∧ vs.size = E.2.2.length ∧ ∀ (j : Nat) d x, E.2.2[j]? = some d → vs[j]? = some x → RD (FW W) W d x := by
  have hk := rd_key hr
  obtain ⟨z, hz, hyz⟩ := rd_val hr
  unfold entOfD at hE
  split at hE
  · rename_i k parts
    split at hE
    · rename_i hsl
      split at hE
      · rename_i ds hds
        simp only [Option.some.injEq] at hE
        subst hE
        rw [keyOf_int und3] at hk
        have hkey : m.key = .int .i64 k := by
          unfold mapKey at hk
          rw [und3] at hk
          split at hk <;> simp_all
        refine ⟨hkey, rfl, ?_⟩
        unfold elemAt at hz
        split at hz
        · rename_i hform
          have hagg : ∃ vs, m.val = .agg vs := by
            unfold Value.formed at hform
            rw [hf.und] at hform
            cases hv : m.val <;> simp [hv] at hform
            exact ⟨_, rfl⟩
          obtain ⟨vs, hvs⟩ := hagg
          refine ⟨vs, hvs, ?_⟩
          rw [hvs] at hz
          obtain ⟨xs, n', _, hx, hl, hn, hel⟩ := DataW.trod_struct hf.und hz
          simp only [Value.cells] at hl hel
          have hparts : parts = xs.map (·.1) := by
            have := hyz
            rw [hx] at this
            simpa using this
          subst hparts
          obtain ⟨hlen, hat⟩ := allSome_at hds
          have hsz : vs.size = ds.length := by
            rw [← hlen, List.length_map, hn, ← hf.cells, ← hl]; simp
          refine ⟨hsz, fun j d x hd hx2 => ?_⟩
          have hj : j < fs.size := by
            have := (List.getElem?_eq_some_iff.1 hd).1
            rw [← hlen, List.length_map, hn] at this
            exact this
          obtain ⟨h1, h2, h3, h4⟩ := hf.at_ j fs[j] (Array.getElem?_eq_getElem hj)
          have hE := hel j fs[j] (Array.getElem?_eq_getElem hj)
          rw [h1, h2] at hE
          have hxs : ∃ c, xs[j]? = some c := ⟨_, List.getElem?_eq_getElem (by omega)⟩
          obtain ⟨⟨dd, q⟩, hc⟩ := hxs
          rw [hc] at hE
          have hp : (xs.map (·.1))[j]? = some dd := by simp [hc]
          obtain ⟨y', hy1, hy2⟩ := hat j dd hp
          rw [hd] at hy2
          simp only [Option.some.injEq] at hy2
          subst hy2
          obtain ⟨x', hx1, hrd⟩ := cellOf_out h3 hE hy1 (fun h30 hnil => by
            have hj0 := h4 h30
            subst hj0
            subst hnil
            cases xs with
            | nil => simp at hc
            | cons a r =>
              simp at hc
              subst hc
              simp [slFirst] at hsl)
          have : vs.toList[j]? = some x' := by
            have h0 : ((vs.toList.drop j).take 1)[0]? = some x' := by rw [hx1]; rfl
            rw [List.getElem?_take_of_lt (by omega), List.getElem?_drop] at h0
            simpa using h0
          have e : x = x' := by
            rw [Array.getElem?_toList, hx2] at this
            exact Option.some.inj this
          rw [e]
          exact hrd
        · cases hz
      · cases hE
    · cases hE
  · cases hE
theorem table_out {t e : Nat} {fs : Array Field} (hf : Flat e fs) (ht : Tryz.prog.underlying t = some (.map 3 e)) {cs : List Value} {L : List (Lit × DB)} {Es : Ents} {p : List MemPlace}
    (h : DataW.trod (funcToken Tryz.prog) Tryz.prog W 0 sp true n t cs = some (.map L, p)) (hL : allSome entOfD L = some Es) (hn : (Es.map (·.1)).Nodup) (hkk : ∀ E ∈ Es, ∃ k : Int, E.1 = .int .i64 k) :
    ∃ b, cs = [.map (some b)] ∧ RD (FW W) W (.tab Es) (.map (some b)) := by
  rcases open_map ht h with ⟨_, hx⟩ | ⟨b, es, clock, n', rfl, rfl, hb, _, F, hx⟩
  · simp at hx
  · simp only [Prod.mk.injEq, DataW.map.injEq] at hx
    obtain ⟨hLe, _⟩ := hx
    have hperm : L.Perm (es.toList.map (rg Tryz.prog 3 (elemAt (funcToken Tryz.prog) Tryz.prog W 0 sp true n' e))) := hLe ▸ sorted_perm _
    let conv : Lit × DB → Value × Bool × List DV := fun y => (entOfD y).getD (undef, false, [])
    have hEs : Es = L.map conv := by
      clear hperm hLe h
      obtain ⟨h1, h2⟩ := allSome_at hL
      apply List.ext_getElem?
      intro i
      by_cases hi : i < L.length
      · obtain ⟨E, e1, e2⟩ := h2 i L[i] (List.getElem?_eq_getElem hi)
        rw [e2]
        simp only [List.getElem?_map, List.getElem?_eq_getElem hi, Option.map_some, conv, e1, Option.getD_some]
      · rw [List.getElem?_eq_none (by omega), List.getElem?_eq_none (by simp; omega)]
    have hreads : ∀ m ∈ es.toList, ∃ y E, rd Tryz.prog 3 (elemAt (funcToken Tryz.prog) Tryz.prog W 0 sp true n' e) m = some y ∧ entOfD y = some E ∧ conv (rg Tryz.prog 3 (elemAt (funcToken Tryz.prog) Tryz.prog W 0 sp true n' e) m) = E := by
      intro m hm
      obtain ⟨y, hy⟩ := F.reads m hm
      have hrg := rg_of hy
      have hmem : y ∈ L := hperm.mem_iff.2 (List.mem_map.2 ⟨m, hm, hrg⟩)
      obtain ⟨i, hi⟩ := List.getElem?_of_mem hmem
      obtain ⟨E, e1, _⟩ := (allSome_at hL).2 i y hi
      exact ⟨y, E, hy, e1, by rw [hrg]; simp [conv, e1]⟩
    refine ⟨b, rfl, .tab Es ((es.toList.map (rg Tryz.prog 3 (elemAt (funcToken Tryz.prog) Tryz.prog W 0 sp true n' e))).map conv) b ?_ hkk hn ?_⟩
    · rw [hEs]; exact (hperm.map conv).symm
    · have key : ∀ (i : Nat) (E : Value × Bool × List DV) (m : MapEntry), ((es.toList.map (rg Tryz.prog 3 (elemAt (funcToken Tryz.prog) Tryz.prog W 0 sp true n' e))).map conv)[i]? = some E → es[i]? = some m →
          m.key = E.1 ∧ E.2.1 = true ∧ ∃ vs, m.val = .agg vs ∧ vs.size = E.2.2.length ∧ ∀ (j : Nat) d x, E.2.2[j]? = some d → vs[j]? = some x → RD (FW W) W d x := by
        intro i E m hE hm
        have hm' : es.toList[i]? = some m := by rw [Array.getElem?_toList]; exact hm
        simp only [List.getElem?_map, hm', Option.map_some, Option.some.injEq] at hE
        obtain ⟨y, E', h1, h2, h3⟩ := hreads m (List.mem_of_getElem? hm')
        rw [h3] at hE
        subst hE
        exact ent_out hf h1 h2
      refine .mp _ b es clock (fun i j => ((es[i]?).bind fun m => m.val.cells[j]?).getD undef) hb ?_ (by simp) (fun i E m hE hm => ?_) (fun i E j d hE hd => ?_) ?_
      · exact (Array.getElem?_eq_some_iff.1 hb).1
      · obtain ⟨h1, h2, vs, h3, h4, h5⟩ := key i E m hE hm
        refine ⟨h1, (fun _ => ⟨vs, h3⟩), (fun hfl => by rw [h2] at hfl; cases hfl), (by rw [h3]; simpa [Value.cells] using h4), fun j hj => ?_⟩
        have hjv : j < vs.size := by omega
        simp only [hm, Option.bind_some, h3, Value.cells, Array.getElem?_eq_getElem hjv, Option.getD_some]
      · have hi : i < es.size := by
          have := (List.getElem?_eq_some_iff.1 hE).1
          simpa using this
        obtain ⟨h1, h2, vs, h3, h4, h5⟩ := key i E es[i] hE (Array.getElem?_eq_getElem hi)
        have hjv : j < vs.size := by
          have := (List.getElem?_eq_some_iff.1 hd).1
          omega
        simp only [Array.getElem?_eq_getElem hi, Option.bind_some, h3, Value.cells, Array.getElem?_eq_getElem hjv, Option.getD_some]
        exact h5 j d _ hd (Array.getElem?_eq_getElem hjv)
      · obtain ⟨s1, s2, _⟩ := F.stamped
        refine ⟨fun i m hm => s1 m (by rw [← Array.getElem?_toList] at hm; exact List.mem_of_getElem? hm), fun i j a c ha hc hb2 => ?_⟩
        rw [← Array.getElem?_toList] at ha hc
        have hi := (List.getElem?_eq_some_iff.1 ha).1
        have hj := (List.getElem?_eq_some_iff.1 hc).1
        have e1 : (es.toList.map (·.born))[i]? = some a.born := by rw [List.getElem?_map, ha]; rfl
        have e2 : (es.toList.map (·.born))[j]? = some a.born := by rw [List.getElem?_map, hc, hb2]; rfl
        obtain ⟨hi', v1⟩ := List.getElem?_eq_some_iff.1 e1
        exact (List.getElem?_inj hi' s2).1 (e1.trans e2.symm)
end
theorem u85 : Tryz.prog.underlying 85 = some (.map 3 84) := by kernel_rfl
theorem u173 : Tryz.prog.underlying 173 = some (.map 3 171) := by kernel_rfl
theorem t_kinds : (Tryz.prog.globals[0]?).map (·.type) = some 85 := by kernel_rfl
theorem t_rules : (Tryz.prog.globals[2]?).map (·.type) = some 173 := by kernel_rfl
noncomputable def fieldsOf (e : Nat) : Array Field := match Tryz.prog.underlying e with
  | some (.struct fs) => fs
  | _ => #[]
noncomputable def flatB (e : Nat) : Bool := decide (Tryz.prog.cellsOf e = (fieldsOf e).size) && (List.range (fieldsOf e).size).all fun i => match (fieldsOf e)[i]? with
  | some f => decide (f.offset = i) && decide (Tryz.prog.cellsOf f.type = 1) && flatT f.type && (decide (f.type ≠ 30) || decide (i = 0))
  | none => true
theorem flat_of {e : Nat} (hu : Tryz.prog.underlying e = some (.struct (fieldsOf e))) (h : flatB e = true) : Flat e (fieldsOf e) := by
  unfold flatB at h
  simp only [Bool.and_eq_true, decide_eq_true_eq] at h
  obtain ⟨h1, h2⟩ := h
  refine ⟨hu, h1, fun i f hf => ?_⟩
  have := List.all_eq_true.1 h2 i (List.mem_range.2 (Array.getElem?_eq_some_iff.1 hf).1)
  rw [hf] at this
  simp only [Bool.and_eq_true, Bool.or_eq_true, decide_eq_true_eq] at this
  obtain ⟨⟨⟨a, b⟩, c⟩, d⟩ := this
  exact ⟨a, b, c, fun h30 => d.resolve_left (fun hh => hh h30)⟩
theorem flat84 : Flat 84 (fieldsOf 84) := flat_of (by kernel_rfl) (by kernel_rfl)
theorem flat171 : Flat 171 (fieldsOf 171) := flat_of (by kernel_rfl) (by kernel_rfl)
def tabL : DB → List (Lit × DB)
  | .map L => L
  | _ => []
def innerD : DataW Unit → DataW Unit
  | .iface _ d => d
  | d => d
theorem kindsE : allSome entOfD (tabL (innerD Rows.laid_turnspit_crit_kinds).funcsOut) = some kindsG := by kernel_rfl
theorem rulesE : allSome entOfD (tabL (innerD Rows.laid_turnspit_life_rules).funcsOut) = some rulesG := by kernel_rfl
def keyN : Value → Nat
  | .int .i64 n => n.toNat
  | _ => 1000
theorem nodup_keys {l : List Value} (h : (l.map keyN).Nodup) : l.Nodup := by
  induction l with
  | nil => exact List.nodup_nil
  | cons a l ih =>
    simp only [List.map_cons, List.nodup_cons, List.mem_map, not_exists, not_and] at h
    exact List.nodup_cons.2 ⟨fun hm => h.1 a hm rfl, ih h.2⟩
def isI (v : Value) : Bool := match v with
  | .int .i64 _ => true
  | _ => false
theorem isI_eq {v : Value} (h : isI v = true) : ∃ k : Int, v = .int .i64 k := by
  unfold isI at h
  split at h
  · exact ⟨_, rfl⟩
  · cases h
theorem keys_ok {Es : Ents} (h : (Es.all fun e => isI e.1) = true) : ∀ E ∈ Es, ∃ k : Int, E.1 = .int .i64 k := fun E hE => isI_eq (List.all_eq_true.1 h E hE)

theorem glob_fw {C : Ctx} {W : World} (hG : C.glob = globs) (hL : laidMetH Tryz.prog laidL W) : GlobF C (FW W) W := by
  obtain ⟨k3, k1, k4⟩ := glob_of_laid hL
  obtain ⟨g0, t0, cs0, f0, p0, hg0, ht0, hv0, hd0⟩ := hL.funcs (n := "turnspit/crit.kinds") (d := innerD Rows.laid_turnspit_crit_kinds) (by simp [innerD, Rows.laid_turnspit_crit_kinds])
  obtain ⟨g2, t2, cs2, f2, p2, hg2, ht2, hv2, hd2⟩ := hL.funcs (n := "turnspit/life.rules") (d := innerD Rows.laid_turnspit_life_rules) (by simp [innerD, Rows.laid_turnspit_life_rules])
  obtain rfl := Option.some.inj (g_kinds.symm.trans hg0)
  obtain rfl := Option.some.inj (t_kinds.symm.trans ht0)
  obtain rfl := Option.some.inj (g_rules.symm.trans hg2)
  obtain rfl := Option.some.inj (t_rules.symm.trans ht2)
  obtain ⟨b0, e0, r0⟩ := table_out (L := tabL (innerD Rows.laid_turnspit_crit_kinds).funcsOut) flat84 u85 hd0 kindsE (nodup_keys (by decide)) (keys_ok rfl)
  obtain ⟨b2, e2, r2⟩ := table_out (L := tabL (innerD Rows.laid_turnspit_life_rules).funcsOut) flat171 u173 hd2 rulesE (nodup_keys (by decide)) (keys_ok rfl)
  have one_get : ∀ {l : List Value}, l.all one = true → ∀ {j : Nat} {x : Value}, l[j]? = some x → one x = true := fun h j x e => List.all_eq_true.1 h x (List.mem_of_getElem? e)
  have fin : ∀ (g : Nat) (row : List DV) (vs : List Value), row = vs.map DV.v → vs.all one = true → (∀ (j : Nat) x, vs[j]? = some x → W.cell? (at_ g j) = some x) →
      ∀ (j : Nat) (y : DV), row[j]? = some y → ∃ x, W.cell? (at_ g j) = some x ∧ FW W g j ∧ RD (FW W) W y x := by
    intro g row vs hr h1 hc j y hy
    subst hr
    simp only [List.getElem?_map, Option.map_eq_some_iff] at hy
    obtain ⟨x, hx, rfl⟩ := hy
    exact ⟨x, hc j x hx, cell_lt (hc j x hx), .v x (one_get h1 hx)⟩
  have fin1 : ∀ (g : Nat) (nm : String) (cs : Array Value) (Es : Ents) (b : Nat), Tryz.prog.globalNamed nm = some g → W.var? Tryz.prog nm = some cs → cs.toList = [.map (some b)] → RD (FW W) W (.tab Es) (.map (some b)) →
      ∀ (j : Nat) (y : DV), [DV.tab Es][j]? = some y → ∃ x, W.cell? (at_ g j) = some x ∧ FW W g j ∧ RD (FW W) W y x := by
    intro g nm cs Es b hg hv he hr j y hy
    match j, hy with
    | 0, hy =>
      simp at hy
      subst hy
      have := World.var?_cell hg hv 0
      rw [← Array.getElem?_toList, he] at this
      exact ⟨_, this, cell_lt (o := 0) this, hr⟩
    | j + 1, hy => simp at hy
  intro g row hg j y hy
  rw [hG] at hg
  unfold globs at hg
  split at hg
  · simp only [Option.some.injEq] at hg
    subst hg
    exact fin1 0 _ _ _ _ g_kinds hv0 e0 r0 j y hy
  · simp only [Option.some.injEq] at hg
    subst hg
    exact fin 1 _ _ rfl rfl k1 j y hy
  · simp only [Option.some.injEq] at hg
    subst hg
    exact fin1 2 _ _ _ _ g_rules hv2 e2 r2 j y hy
  · simp only [Option.some.injEq] at hg
    subst hg
    exact fin 3 _ _ rfl rfl k3 j y hy
  · simp only [Option.some.injEq] at hg
    subst hg
    refine fin 4 _ (weightsL.map (Value.int .i64)) ?_ rfl k4 j y hy
    rfl
  · cases hg
end Go.Ev
