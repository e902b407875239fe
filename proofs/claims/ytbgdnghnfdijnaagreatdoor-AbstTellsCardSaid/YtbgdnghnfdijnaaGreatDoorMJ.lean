/- What the proof of this claim needs: part MJ. No conditions. -/
import Derived.Test.YtbgdnghnfdijnaaGreatDoorMC
import Derived.OpenShut
import Derived.ReadAgain
import Derived.WalkKit
import Derived.ProofKit
import Derived.Deep.Slices
import Derived.LaidMore
import Derived.LaidLaws
import Derived.LaidHandle
import Derived.Test.YtbgdnghnfdijnaaGreatDoorMI
set_option linter.unusedVariables false
set_option linter.unusedSimpArgs false
namespace Go.Ev
open Go Go.RowKit Go.Proofs Go.Proofs.YtbgdnghnfdijnaaGreatDoor Go.ChangeShapes Go.WideShapes Go.ChangeAt
theorem own : ownKnob Tryz.prog.godebug = none := by kernel_rfl
theorem t_spans : (Tryz.prog.globals[0]?).map (·.type) = some 266 := by kernel_rfl
theorem t_empty : (Tryz.prog.globals[1]?).map (·.type) = some 117 := by kernel_rfl
theorem t_weights : (Tryz.prog.globals[2]?).map (·.type) = some 295 := by kernel_rfl
theorem u266 : Tryz.prog.underlying 266 = some (.array 5 71) := by kernel_rfl
theorem u71 : Tryz.prog.underlying 71 = some (.array 2 3) := by kernel_rfl
theorem u295 : Tryz.prog.underlying 295 = some (.array 40 3) := by kernel_rfl
theorem co3 : Tryz.prog.cellsOf 3 = 1 := by kernel_rfl
theorem co4 : Tryz.prog.cellsOf 4 = 1 := by kernel_rfl
theorem co39 : Tryz.prog.cellsOf 39 = 1 := by kernel_rfl
theorem co71 : Tryz.prog.cellsOf 71 = 2 := by kernel_rfl
theorem co266 : Tryz.prog.cellsOf 266 = 10 := by kernel_rfl
theorem co295 : Tryz.prog.cellsOf 295 = 40 := by kernel_rfl
theorem co117 : Tryz.prog.cellsOf 117 = 6 := by kernel_rfl
section
variable {H : Type} {enc : TypeId × Value → H} {W : World} {base : Nat} {sp : Nat → Bool} {hd : Bool} {n : Nat}
theorem trod3_eq {cs : List Value} {a : Int} {p : List MemPlace} (h : DataW.trod enc Tryz.prog W base sp hd n 3 cs = some (.lit (.int .i64 a), p)) : cs = [.int .i64 a] := by
 obtain ⟨b, h1, h2, _⟩ := DataW.trod_int und3 h
 simp only [Prod.mk.injEq, DataW.lit.injEq, Lit.int.injEq] at h2
 rw [h1, h2.1.2]
theorem trod39_eq {cs : List Value} {a : Int} {p : List MemPlace} (h : DataW.trod enc Tryz.prog W base sp hd n 39 cs = some (.lit (.int .u64 a), p)) : cs = [.int .u64 a] := by
 obtain ⟨b, h1, h2, _⟩ := DataW.trod_int und39 h
 simp only [Prod.mk.injEq, DataW.lit.injEq, Lit.int.injEq] at h2
 rw [h1, h2.1.2]
theorem trod4_eq {cs : List Value} {a : Bool} {p : List MemPlace} (h : DataW.trod enc Tryz.prog W base sp hd n 4 cs = some (.lit (.bool a), p)) : cs = [.bool a] := by
 obtain ⟨b, h1, h2⟩ := DataW.trod_bool und4 h
 simp only [Prod.mk.injEq, DataW.lit.injEq, Lit.bool.injEq] at h2
 rw [h1, h2.1]
theorem trod_ints {t k : Nat} {cs : List Value} {l : List Int} {p : List MemPlace} (ht : Tryz.prog.underlying t = some (.array k 3)) (hc : Tryz.prog.cellsOf t = k)
  (h : DataW.trod enc Tryz.prog W base sp hd n t cs = some (.agg (l.map fun i => .lit (.int .i64 i)), p)) : cs = l.map (.int .i64) := by
 obtain ⟨xs, m, _, hx, hl, hn, hel⟩ := DataW.trod_array ht h
 simp only [Prod.mk.injEq, DataW.agg.injEq] at hx
 have hll : l.length = k := by
  have := congrArg List.length hx.1
  simp at this; omega
 apply List.ext_getElem?
 intro i
 by_cases hi : i < k
 ·have e := hel i hi
  rw [co3] at e
  have hxi : ∃ x, xs[i]? = some x := ⟨_, List.getElem?_eq_getElem (by omega)⟩
  obtain ⟨⟨d, q⟩, hxi⟩ := hxi
  rw [hxi] at e
  have hd' : (xs.map (·.1))[i]? = some d := by simp [hxi]
  rw [← hx.1] at hd'
  have hli : l[i]? = some l[i] := List.getElem?_eq_getElem (by omega)
  simp only [List.getElem?_map, hli, Option.map_some, Option.some.injEq] at hd'
  subst hd'
  have := trod3_eq e
  simp only [Nat.mul_one] at this
  have h0 : ((cs.drop i).take 1)[0]? = some (.int .i64 l[i]) := by rw [this]; rfl
  simp only [List.getElem?_map, hli, Option.map_some]
  rw [List.getElem?_take_of_lt (by omega), List.getElem?_drop] at h0
  simpa using h0
 ·rw [List.getElem?_eq_none (by omega), List.getElem?_eq_none (by simp; omega)]
end
theorem len5 {α : Type} {l : List α} (h : l.length = 5) : ∃ a b c d e, l = [a, b, c, d, e] := by
 match l, h with
 | [a, b, c, d, e], _ => exact ⟨a, b, c, d, e, rfl⟩
theorem len6 {α : Type} {l : List α} (h : l.length = 6) : ∃ a b c d e f, l = [a, b, c, d, e, f] := by
 match l, h with
 | [a, b, c, d, e, f], _ => exact ⟨a, b, c, d, e, f, rfl⟩
theorem len10 {α : Type} {l : List α} (h : l.length = 10) : ∃ a b c d e f g i j k, l = [a, b, c, d, e, f, g, i, j, k] := by
 match l, h with
 | [a, b, c, d, e, f, g, i, j, k], _ => exact ⟨a, b, c, d, e, f, g, i, j, k, rfl⟩
section
variable {H : Type} {enc : TypeId × Value → H} {W : World} {base : Nat} {sp : Nat → Bool} {hd : Bool} {n : Nat}
theorem trod_spans {cs : List Value} {p : List MemPlace} (h : DataW.trod enc Tryz.prog W base sp hd n 266 cs = some (@Rows.laid_turnspit_packed_spans H, p)) : cs = [0, 3, 3, 9, 9, 10, 10, 26, 26, 58].map (.int .i64) := by
 obtain ⟨xs, m, _, hx, hl, hn, hel⟩ := DataW.trod_array u266 h
 rw [co266] at hl
 obtain ⟨a, b, c, d, e, f, g, i, j, k, rfl⟩ := len10 hl
 obtain ⟨⟨x0, y0⟩, ⟨x1, y1⟩, ⟨x2, y2⟩, ⟨x3, y3⟩, ⟨x4, y4⟩, rfl⟩ := len5 hn
 simp only [Rows.laid_turnspit_packed_spans, List.map_cons, List.map_nil, Prod.mk.injEq, DataW.agg.injEq, List.cons.injEq, and_true] at hx
 obtain ⟨⟨rfl, rfl, rfl, rfl, rfl⟩, _⟩ := hx
 have g0 := hel 0 (by omega)
 have g1 := hel 1 (by omega)
 have g2 := hel 2 (by omega)
 have g3 := hel 3 (by omega)
 have g4 := hel 4 (by omega)
 simp [co71] at g0 g1 g2 g3 g4
 have r0 := trod_ints (l := [0, 3]) u71 co71 g0
 have r1 := trod_ints (l := [3, 9]) u71 co71 g1
 have r2 := trod_ints (l := [9, 10]) u71 co71 g2
 have r3 := trod_ints (l := [10, 26]) u71 co71 g3
 have r4 := trod_ints (l := [26, 58]) u71 co71 g4
 simp at r0 r1 r2 r3 r4
 simp [r0, r1, r2, r3, r4]
theorem trod_empty {cs : List Value} {p : List MemPlace} (h : DataW.trod enc Tryz.prog W base sp hd n 117 cs = some (@Rows.laid_turnspit_tree_empty H, p)) : cs = [.bool false, .bool false, .int .u64 0, .int .i64 (-1), .int .i64 (-1), .int .i64 (-1)] := by
 obtain ⟨xs, m, _, hx, hl, hn, hel⟩ := DataW.trod_struct Tryz.underlying117 h
 rw [co117] at hl
 obtain ⟨a, b, c, d, e, f, rfl⟩ := len6 hl
 obtain ⟨⟨x0, y0⟩, ⟨x1, y1⟩, ⟨x2, y2⟩, ⟨x3, y3⟩, ⟨x4, y4⟩, ⟨x5, y5⟩, rfl⟩ := len6 (l := xs) hn
 simp only [Rows.laid_turnspit_tree_empty, List.map_cons, List.map_nil, Prod.mk.injEq, DataW.agg.injEq, List.cons.injEq, and_true] at hx
 obtain ⟨⟨rfl, rfl, rfl, rfl, rfl, rfl⟩, _⟩ := hx
 have g0 := hel 0 _ rfl
 have g1 := hel 1 _ rfl
 have g2 := hel 2 _ rfl
 have g3 := hel 3 _ rfl
 have g4 := hel 4 _ rfl
 have g5 := hel 5 _ rfl
 simp [co3, co4, co39] at g0 g1 g2 g3 g4 g5
 have r0 := trod4_eq g0
 have r1 := trod4_eq g1
 have r2 := trod39_eq g2
 have r3 := trod3_eq g3
 have r4 := trod3_eq g4
 have r5 := trod3_eq g5
 simp at r0 r1 r2 r3 r4 r5
 simp [r0, r1, r2, r3, r4, r5]
def weightsL : List Int := [88761, 71755, 56483, 46273, 36291, 29154, 23254, 18705, 14949, 11916, 9548, 7620, 6100, 4904, 3906, 3121, 2501, 1991, 1586, 1277, 1024, 820, 655, 526, 423, 335, 272, 215, 172, 137, 110, 87, 70, 56, 45, 36, 29, 23, 18, 15]
theorem trod_weights {cs : List Value} {p : List MemPlace} (h : DataW.trod enc Tryz.prog W base sp hd n 295 cs = some (@Rows.laid_turnspit_weight_weights H, p)) : cs = weightsL.map (.int .i64) :=
 trod_ints (l := weightsL) u295 co295 h
end
abbrev laidL : List (String × DataW Unit) := [("turnspit/packed.spans", Rows.laid_turnspit_packed_spans), ("turnspit/tree.empty", Rows.laid_turnspit_tree_empty), ("turnspit/weight.weights", Rows.laid_turnspit_weight_weights)]
theorem glob_of_laid {W : World} (h : laidMetH Tryz.prog laidL W) : (∀ (j : Nat) x, ([0, 3, 3, 9, 9, 10, 10, 26, 26, 58].map (Value.int .i64))[j]? = some x → W.cell? (Bn 0 j) = some x) ∧
  (∀ (j : Nat) x, [Value.bool false, .bool false, .int .u64 0, .int .i64 (-1), .int .i64 (-1), .int .i64 (-1)][j]? = some x → W.cell? (Bn 1 j) = some x) ∧
  (∀ (j : Nat) x, (weightsL.map (Value.int .i64))[j]? = some x → W.cell? (Bn 2 j) = some x) := by
 rw [MakeChecks.laidMetH_plain _ _ _ (by kernel_rfl)] at h
 obtain ⟨ps, ⟨g0, t0, cs0, f0, p0, q0, hg0, ht0, hv0, hd0, ⟨g1, t1, cs1, f1, p1, q1, hg1, ht1, hv1, hd1, ⟨g2, t2, cs2, f2, p2, q2, hg2, ht2, hv2, hd2, _, _⟩, _⟩, _⟩, _, _⟩ := h
 obtain rfl := Option.some.inj (g_spans.symm.trans hg0)
 obtain rfl := Option.some.inj (g_empty.symm.trans hg1)
 obtain rfl := Option.some.inj (g_weights.symm.trans hg2)
 obtain rfl := Option.some.inj (t_spans.symm.trans ht0)
 obtain rfl := Option.some.inj (t_empty.symm.trans ht1)
 obtain rfl := Option.some.inj (t_weights.symm.trans ht2)
 have r0 := trod_spans hd0
 have r1 := trod_empty hd1
 have r2 := trod_weights hd2
 refine ⟨fun j x hx => ?_, fun j x hx => ?_, fun j x hx => ?_⟩
 ·have := World.var?_cell hg0 hv0 j
  rw [← Array.getElem?_toList, r0] at this
  exact this.trans hx
 ·have := World.var?_cell hg1 hv1 j
  rw [← Array.getElem?_toList, r1] at this
  exact this.trans hx
 ·have := World.var?_cell hg2 hv2 j
  rw [← Array.getElem?_toList, r2] at this
  exact this.trans hx
end Go.Ev
namespace Go.Ev
open Go Go.RowKit Go.Proofs Go.Proofs.YtbgdnghnfdijnaaGreatDoor Go.ChangeShapes Go.WideShapes Go.ChangeAt
section
variable {H : Type} {enc : TypeId × Value → H} {P : Program}
theorem carryAll {w w' : World} {base : Nat} {sp : Nat → Bool} {held : Bool} : ∀ {ts : List TypeId} {vs : List Value} {ds : List (DataW H)} {ps : List MemPlace},
  DataW.TrodAll enc P w base sp held ts vs ds ps → (∀ p ∈ ps, w.sameAt w' p) → DataW.TrodAll enc P w' base sp held ts vs ds ps
 | [], [], [], _, h, _ => h
 | _ :: _, _ :: _, _ :: _, _, ⟨p, q, ⟨n, h1⟩, h2, e⟩, hs =>
  ⟨p, q, ⟨n, DataW.trod_carry n _ _ _ h1 (fun x hx => hs x (by rw [e]; exact List.mem_append_left _ hx))⟩, carryAll h2 (fun x hx => hs x (by rw [e]; exact List.mem_append_right _ hx)), e⟩
theorem sameAt_below {w w' : World} (hb : Below w.heap.size w w') {p : MemPlace} (hp : p.block < w.heap.size) : w.sameAt w' p := by
 cases p with
 | cell b off => exact World.cell?_of_block (w := w) (hb.block b hp)
 | map b => exact hb.block b hp
theorem post_below {f : Func} {s : ChangeSpec} {apart fresh handsOn again : Bool} {W W' : World} {args : Array Value} {v : Value} {ds gs : List (DataW H)} {before : List MemPlace}
  (K : Kids P (· < P.types.size)) (hz : ∀ t e, t < P.types.size → P.underlying t = some (.slice e) → 0 < P.cellsOf e) (hts : ∀ t ∈ f.params.toList, t < P.types.size)
  (hW : DataW.Whole enc P f.params.toList s.vars apart W args.toList ds gs before) (hv : s.vars = [])
  (hargs : (s.fn H (ds ++ gs)).args = ds) (hvars : (s.fn H (ds ++ gs)).vars = [])
  (hres : ∀ (b : Nat) (sp : Nat → Bool) (hd : Bool), DataW.TrodAll enc P W' b sp hd f.resultTypes.toList (v.resultList f.resultTypes.size) (s.fn H (ds ++ gs)).results [])
  (hb : Below W.heap.size W W')
  (hok : ∀ (j : Nat) (t : TypeId) (r : Value), f.resultTypes[j]? = some t → (v.resultList f.resultTypes.size)[j]? = some r → Value.okWide P W' .any 0 t r) :
  s.post enc P f apart fresh handsOn again W args v W' := by
 have hlt : ∀ p ∈ before, p.block < W.heap.size := fun p hp => hW.lt p hp
 have hold : ∀ p ∈ before, (fun b => decide (b < W.heap.size)) p.block = true := fun p hp => by simpa using hlt p hp
 have hW' := hW
 obtain ⟨p, q, hA, hV, rfl, hfz, hnd⟩ := hW
 rw [hv] at hV
 obtain ⟨rfl, rfl⟩ := trodVars_none hV
 simp only [List.append_nil] at *
 have back : ∀ sp : Nat → Bool, (∀ x ∈ p, sp x.block = true) → DataW.TrodAll enc P W' 0 sp true f.params.toList args.toList (s.fn H ds).args p := by
  intro sp hsp
  rw [hargs]
  exact carryAll (DataW.TrodAll.respare K hz hts hA hsp) fun x hx => sameAt_below hb (hlt x hx)
 have vars : ∀ sp : Nat → Bool, DataW.TrodVars enc P W' sp s.vars (s.fn H ds).vars [] := by
  intro sp
  rw [hv, hvars]
  exact rfl
 refine ⟨ds, [], p, [], p, [], by simpa using hW', by simpa using hres _ _ _, by simpa using back _ hold, by simpa using vars _, World.keptBut_mono (fun x hx => ⟨hx, .inr (.inl (by simpa using hx))⟩) (hb.frame (· ∈ p)), fun _ => ?_⟩
 refine ⟨hok, _, _, ([] ++ p) ++ [], ⟨[] ++ p, [], trodAll_append (by simpa using back _ (fun _ _ => rfl)) (by simpa using hres _ _ _), by simpa using vars _, rfl, ?_, ?_⟩, ?_⟩
 ·intro b off hp
  have hin : MemPlace.cell b off ∈ p := by simpa using hp
  rw [hb.frozen (hlt _ hin)]
  exact hfz b off hin
 ·intro ha
  simpa using hnd ha
 ·intro x hx _
  simpa using hx
end
abbrev FW (W : World) : Nat → Nat → Prop := fun b _ => b < W.heap.size
section
variable {H : Type} {enc : TypeId × Value → H} {W : World} {base : Nat} {sp : Nat → Bool} {hd : Bool} {n : Nat}
theorem cell_lt {b o : Nat} {x : Value} (h : W.cell? (Bn b o) = some x) : b < W.heap.size := by
 unfold World.cell? at h
 cases e : W.heap[b]? with
 | none => simp [e] at h
 | some x => exact (Array.getElem?_eq_some_iff.1 e).1
end
theorem one_get {l : List Value} (h : l.all one = true) {j : Nat} {x : Value} (e : l[j]? = some x) : one x = true := List.all_eq_true.1 h x (List.mem_of_getElem? e)
theorem glob_fw {C : Ctx} {W : World} (hG : C.glob = globs) (hL : laidMetH Tryz.prog laidL W) : GlobF C (FW W) W := by
 obtain ⟨k0, k1, k2⟩ := glob_of_laid hL
 have fin : ∀ (g : Nat) (row : List DV) (vs : List Value), row = vs.map DV.v → vs.all one = true → (∀ (j : Nat) x, vs[j]? = some x → W.cell? (Bn g j) = some x) →
   ∀ (j : Nat) (y : DV), row[j]? = some y → ∃ x, W.cell? (Bn g j) = some x ∧ FW W g j ∧ RD (FW W) W y x := by
  intro g row vs hr h1 hc j y hy
  subst hr
  simp only [List.getElem?_map, Option.map_eq_some_iff] at hy
  obtain ⟨x, hx, rfl⟩ := hy
  exact ⟨x, hc j x hx, cell_lt (hc j x hx), .v x (one_get h1 hx)⟩
 intro g row hg j y hy
 rw [hG] at hg
 unfold globs at hg
 split at hg
 ·simp only [Option.some.injEq] at hg
  subst hg
  exact fin 0 _ _ rfl rfl k0 j y hy
 ·simp only [Option.some.injEq] at hg
  subst hg
  exact fin 1 _ _ rfl rfl k1 j y hy
 ·simp only [Option.some.injEq] at hg
  subst hg
  refine fin 2 _ (weightsL.map (Value.int .i64)) ?_ rfl k2 j y hy
  rfl
 ·cases hg
theorem laidOut : laidOutB Tryz.prog = true := by kernel_rfl
theorem mapsRow : mapsRowed Tryz.prog = true := by kernel_rfl
theorem kids : Kids Tryz.prog (· < Tryz.prog.types.size) := kids_rows laidOut mapsRow
theorem slicesFull : ∀ t e, t < Tryz.prog.types.size → Tryz.prog.underlying t = some (.slice e) → 0 < Tryz.prog.cellsOf e := slices_full_of Tryz.prog (by kernel_rfl)
set_option maxRecDepth 100000 in
theorem calls_true {C : Ctx} {g : FuncId} {f : Func} {spec : Go.Ev.Spec} (hC : C.P = Tryz.prog) (hG : C.glob = globs) (hs : AJ C g spec) {H : Type} {enc : TypeId × Value → H} {s : ChangeSpec} {W : World} {args : Array Value} {ds gs : List (DataW H)} {before : List MemPlace} {ps : List PV}
  (hts : ∀ t ∈ f.params.toList, t < Tryz.prog.types.size) (hrt : f.resultTypes = #[4]) (hW : DataW.Whole enc Tryz.prog f.params.toList s.vars false W args.toList ds gs before) (hv : s.vars = [])
  (hargs : (s.fn H (ds ++ gs)).args = ds) (hvars : (s.fn H (ds ++ gs)).vars = []) (hres : (s.fn H (ds ++ gs)).results = [.lit (.bool true)])
  (hps : RPs (FW W) W ps args.toList) (hL : laidMetH Tryz.prog laidL W) (hsp : spec ps = some [A3 true]) :
  Calls Tryz.prog g args W fun e W' => ∃ v, e = .returned v ∧ s.post enc Tryz.prog f false true false false W args v W' := by
 have h := hs ps _ hsp (FW W) W args.toList (fun _ _ h => h) (glob_fw hG hL) hps
 rw [hC] at h
 have e : args.toList.toArray = args := by simp
 rw [e] at h
 refine h.mono ?_
 rintro e W' ⟨v, F', rfl, hb, _, _, _, hr⟩
 have hvv : v = .bool true := by
  cases hr with
  | one _ _ h =>
   cases h with
   | one _ _ h => cases h; rfl
  | many ps vs hn _ => exact absurd rfl hn
 subst hvv
 refine ⟨_, rfl, post_below kids slicesFull hts hW hv hargs hvars (fun b sp hd => ?_) hb ?_⟩
 ·rw [hrt, hres]
  exact trodAll_mk1 (shut_bool und4 _)
 ·exact ok_one hrt rfl (okWide_bool_mk und4 _)
end Go.Ev
namespace Go.Ev
open Go Go.RowKit Go.Proofs Go.Proofs.YtbgdnghnfdijnaaGreatDoor Go.ChangeShapes Go.WideShapes Go.ChangeAt
section
variable {H : Type} (enc : TypeId × Value → H) (W : World) (sp : Nat → Bool) (hd : Bool)
def Rds (t w : Nat) (P : List DV → Prop) : Prop := ∀ (n : Nat) (cs : List Value) (x : DataW H × List MemPlace), DataW.trod enc Tryz.prog W 0 sp hd n t cs = some x → (∀ k ∈ x.1.weights Tryz.prog t, k ≤ reachBytes) →
 ∃ r : List DV, P r ∧ r.length = w ∧ cs.length = w ∧ ∀ (j : Nat) (y : DV) (v : Value), r[j]? = some y → cs[j]? = some v → RD (FW W) W y v
variable {enc : TypeId × Value → H} {W : World} {sp : Nat → Bool} {hd : Bool}
theorem one_cell {x : DV} {v : Value} (h : RD (FW W) W x v) : ∀ (j : Nat) (y : DV) (u : Value), [x][j]? = some y → [v][j]? = some u → RD (FW W) W y u := fun j y u hy hu => by
 cases j with
 | zero =>
  simp only [List.getElem?_cons_zero, Option.some.injEq] at hy hu
  subst hy; subst hu; exact h
 | succ j => simp at hy
theorem rds_int {t : Nat} {k : IntKind} (ht : Tryz.prog.underlying t = some (.int k)) : Rds enc W sp hd t 1 (fun r => ∃ a : Int, (Lit.int k a).wf = true ∧ r = [.v (.int k a)]) := by
 intro n cs x h _
 obtain ⟨a, h1, _, h3⟩ := DataW.trod_int ht h
 subst h1
 exact ⟨_, ⟨a, h3, rfl⟩, rfl, rfl, one_cell (.v _ rfl)⟩
theorem rds_bool {t : Nat} (ht : Tryz.prog.underlying t = some .bool) : Rds enc W sp hd t 1 (fun r => ∃ a : Bool, r = [.v (.bool a)]) := by
 intro n cs x h _
 obtain ⟨a, h1, _⟩ := DataW.trod_bool ht h
 subst h1
 exact ⟨_, ⟨a, rfl⟩, rfl, rfl, one_cell (.v _ rfl)⟩
theorem weights_elem {e : Nat} : ∀ {l : List (DataW H)} {d : DataW H}, d ∈ l → ∀ k ∈ d.weights Tryz.prog e, k ∈ DataW.weightsAll Tryz.prog e l
 | a :: l, d, hd, k, hk => by
  unfold DataW.weightsAll
  rcases List.mem_cons.1 hd with rfl | hd
  ·exact List.mem_append_left _ hk
  ·exact List.mem_append_right _ (weights_elem hd k hk)
set_option maxRecDepth 100000 in
theorem rds_slice {t e w : Nat} {P : List DV → Prop} (ht : Tryz.prog.underlying t = some (.slice e)) (hc : Tryz.prog.cellsOf e = w) (h0 : 0 < w) (he : Rds enc W sp hd e w P) :
  Rds enc W sp hd t 1 (fun r => ∃ rows : A8, (∀ q ∈ rows, P q) ∧ rows.length * Tryz.prog.bytesOf e ≤ reachBytes ∧ r = [.mn w rows]) := by
 intro n cs x h hwt
 rcases Go.Deep.open_slice ht h with ⟨h1, h2⟩ | ⟨a, len, cap, m, k, D, Pl, h1, hb, hl, hm, hmm, h2, hx⟩
 ·subst h1
  exact ⟨_, ⟨[], by simp, by simp, rfl⟩, rfl, rfl, one_cell (.mn0 w)⟩
 subst h1
 have hlm : len ≤ m := by rw [hmm]; split <;> omega
 have hwt' : ∀ i, i < len → ∀ k ∈ (D i).weights Tryz.prog e, k ≤ reachBytes := fun i hi k hk => hwt k (by
  rw [h2]
  unfold DataW.weights
  simp only [ht]
  exact List.mem_cons_of_mem _ (List.mem_append_left _ (weights_elem (List.mem_map.2 ⟨i, by simpa using hi, rfl⟩) k hk)))
 have hbytes : len * Tryz.prog.bytesOf e ≤ reachBytes := by
  have := hwt ((((List.range len).map D).length + (((List.range (m - len)).map fun j => D (len + j))).length) * Tryz.prog.bytesOf e) (by
   rw [h2]
   unfold DataW.weights
   simp only [ht]
   exact List.mem_cons_self ..)
  refine Nat.le_trans (Nat.mul_le_mul_right _ ?_) this
  simp
 cases len with
 | zero => exact ⟨_, ⟨[], by simp, by simp, rfl⟩, rfl, rfl, one_cell (.mne w a cap)⟩
 | succ len =>
  have hspot : a.spot = none := by
   obtain ⟨cs', q1, q2⟩ := hx 0 (by omega)
   obtain ⟨_, q3, q4⟩ := World.cells?_some q1
   rw [hc] at q3
   have := q4 0 (by rw [hc]; exact h0)
   rw [List.getElem?_eq_getElem (by omega)] at this
   have := World.cell?_spot this
   simpa [Addr.add] using this
  obtain ⟨b, o, s⟩ := a
  simp only at hspot
  subst hspot
  obtain ⟨V, hV⟩ := Go.Deep.choose_lt (α := List DV × List Value) (p := fun i u => W.cells? 0 (Addr.add ⟨b, o, none⟩ (i * w)) w = some u.2 ∧ P u.1 ∧ u.1.length = w ∧ u.2.length = w ∧
    ∀ (j : Nat) (y : DV) (v : Value), u.1[j]? = some y → u.2[j]? = some v → RD (FW W) W y v) (n := len + 1) (fun i hi => by
   obtain ⟨cs', q1, q2⟩ := hx i (by omega)
   rw [hc] at q1
   obtain ⟨r, r1, r2, r3, r4⟩ := he _ _ _ q2 (hwt' i hi)
   exact ⟨(r, cs'), q1, r1, r2, r3, r4⟩)
  have hrow : ∀ (i : Nat) (r : List DV), (((List.range (len + 1)).map fun i => (V i).1))[i]? = some r → i < len + 1 ∧ r = (V i).1 := by
   intro i r hr
   by_cases hi : i < len + 1
   ·simp [hi] at hr
    exact ⟨hi, hr.symm⟩
   ·simp [hi] at hr
  have hcell : ∀ i j : Nat, i < len + 1 → j < w → W.cell? (Bn b (o + i * w + j)) = some (((V i).2[j]?).getD undef) := by
   intro i j hi hj
   obtain ⟨p1, p2, p3, p4, p5⟩ := hV i hi
   obtain ⟨_, q2, q3⟩ := World.cells?_some p1
   have := q3 j hj
   rw [List.getElem?_eq_getElem (by omega)] at this ⊢
   rw [Option.getD_some, ← this]
   congr 1
   simp only [Addr.add, Bn]
   split <;> split <;> simp_all <;> omega
  refine ⟨_, ⟨(List.range (len + 1)).map fun i => (V i).1, fun q hq => ?_, by simpa using hbytes, rfl⟩, rfl, rfl, one_cell (.mn _ _ _ (.sl w false _ b o (len + 1) cap (fun i j => ((V i).2[j]?).getD undef) (by simp) hl (fun h => by cases h) (fun i r hr => ?_) (fun i j r hr hj => ?_) (fun i j r y hr hy => ?_)))⟩
  ·obtain ⟨i, hi, rfl⟩ := List.mem_map.1 hq
   exact (hV i (by simpa using hi)).2.1
  ·obtain ⟨hi, rfl⟩ := hrow i r hr
   exact (hV i hi).2.2.1
  ·obtain ⟨hi, rfl⟩ := hrow i r hr
   have := hcell i j hi hj
   exact ⟨this, cell_lt this⟩
  ·obtain ⟨hi, rfl⟩ := hrow i r hr
   obtain ⟨p1, p2, p3, p4, p5⟩ := hV i hi
   have hjw : j < w := by rw [← p3]; exact (List.getElem?_eq_some_iff.1 hy).1
   have hj2 : j < (V i).2.length := by omega
   simp only [List.getElem?_eq_getElem hj2, Option.getD_some]
   exact p5 j y _ hy (List.getElem?_eq_getElem hj2)
def offs : Nat → List (Nat × Nat × (List DV → Prop)) → AC
 | _, [] => []
 | o, x :: r => (x.1, o) :: offs (o + x.2.1) r
def FitsL : List (Nat × Nat × (List DV → Prop)) → List DV → Prop
 | [], r => r = []
 | x :: l, r => ∃ q s, x.2.2 q ∧ q.length = x.2.1 ∧ FitsL l s ∧ r = q ++ s
def cellsL (L : List (Nat × Nat × (List DV → Prop))) : Nat := (L.map (·.2.1)).sum
theorem fields_rd : ∀ (L : List (Nat × Nat × (List DV → Prop))) (o n : Nat) (cs : List Value) (ds : List (DataW H × List MemPlace)), ds.length = L.length →
  (∀ x ∈ L, Rds enc W sp hd x.1 x.2.1 x.2.2) → o + cellsL L ≤ cs.length →
  (∀ (i : Nat) x, L[i]? = some x → Tryz.prog.cellsOf x.1 = x.2.1) →
  (∀ (i : Nat) (p : Nat × Nat) d, (offs o L)[i]? = some p → ds[i]? = some d → DataW.trod enc Tryz.prog W 0 sp hd n p.1 ((cs.drop p.2).take (Tryz.prog.cellsOf p.1)) = some d ∧ ∀ k ∈ d.1.weights Tryz.prog p.1, k ≤ reachBytes) →
  ∃ r, FitsL L r ∧ r.length = cellsL L ∧ ∀ (j : Nat) (y : DV) (v : Value), r[j]? = some y → (cs.drop o)[j]? = some v → RD (FW W) W y v
 | [], o, n, cs, ds, hl, hR, ho, hc, h => ⟨[], rfl, rfl, fun j y v hy => by simp at hy⟩
 | x :: L, o, n, cs, [], hl, hR, ho, hc, h => by simp at hl
 | x :: L, o, n, cs, d :: ds, hl, hR, ho, hc, h => by
  have hx : Tryz.prog.cellsOf x.1 = x.2.1 := hc 0 x rfl
  obtain ⟨h1, h2⟩ := h 0 (x.1, o) d rfl rfl
  have hsum : cellsL (x :: L) = x.2.1 + cellsL L := by simp [cellsL]
  obtain ⟨q, q1, q2, q3, q4⟩ := hR x (List.mem_cons_self ..) _ _ _ h1 h2
  obtain ⟨s, s1, s2, s3⟩ := fields_rd L (o + x.2.1) n cs ds (by simpa using hl) (fun y hy => hR y (List.mem_cons_of_mem _ hy)) (by omega) (fun i y hy => hc (i + 1) y hy) (fun i p d hp hd => h (i + 1) p d hp hd)
  refine ⟨q ++ s, ⟨q, s, q1, q2, s1, rfl⟩, by simp [q2, s2, hsum], fun j y v hy hv => ?_⟩
  by_cases hj : j < q.length
  ·rw [List.getElem?_append_left hj] at hy
   refine q4 j y v hy ?_
   rw [hx, List.getElem?_take_of_lt (by omega)]
   exact hv
  ·rw [List.getElem?_append_right (by omega)] at hy
   refine s3 (j - q.length) y v hy ?_
   rw [List.getElem?_drop] at hv ⊢
   rw [q2] at hj ⊢
   have e : o + x.2.1 + (j - x.2.1) = o + j := by omega
   rw [e]
   exact hv
theorem weightsEach_mem : ∀ (ts : List Nat) (ds : List (DataW H)) (i : Nat) (t : Nat) (d : DataW H), ts[i]? = some t → ds[i]? = some d → ∀ k ∈ d.weights Tryz.prog t, k ∈ DataW.weightsEach Tryz.prog ts ds
 | [], ds, i, t, d, ht, hd, k, hk => by simp at ht
 | a :: ts, [], i, t, d, ht, hd, k, hk => by simp at hd
 | a :: ts, b :: ds, 0, t, d, ht, hd, k, hk => by
  simp only [List.getElem?_cons_zero, Option.some.injEq] at ht hd
  subst ht; subst hd
  unfold DataW.weightsEach
  exact List.mem_append_left _ hk
 | a :: ts, b :: ds, i + 1, t, d, ht, hd, k, hk => by
  unfold DataW.weightsEach
  exact List.mem_append_right _ (weightsEach_mem ts ds i t d (by simpa using ht) (by simpa using hd) k hk)
theorem offs_len : ∀ (o : Nat) (L : List (Nat × Nat × (List DV → Prop))), (offs o L).length = L.length
 | _, [] => rfl
 | o, x :: r => by simp [offs, offs_len]
theorem offs_fst : ∀ (o : Nat) (L : List (Nat × Nat × (List DV → Prop))), (offs o L).map (·.1) = L.map (·.1)
 | _, [] => rfl
 | o, x :: r => by simp [offs, offs_fst]
set_option maxRecDepth 100000 in
theorem BK {t w : Nat} {fs : Array Field} (ht : Tryz.prog.underlying t = some (.struct fs)) (L : List (Nat × Nat × (List DV → Prop))) (hf : (fs.toList.map fun f => (f.type, f.offset)) = offs 0 L)
  (hc : (L.map fun x => Tryz.prog.cellsOf x.1) = L.map (·.2.1)) (hw : Tryz.prog.cellsOf t = w) (hs : cellsL L = w) (hR : ∀ x ∈ L, Rds enc W sp hd x.1 x.2.1 x.2.2) : Rds enc W sp hd t w (FitsL L) := by
 intro n cs x h hwt
 obtain ⟨xs, m, _, hx, hl, hn, hel⟩ := DataW.trod_struct ht h
 have hlen : fs.size = L.length := by
  have := congrArg List.length hf
  simpa [offs_len] using this
 obtain ⟨r, r1, r2, r3⟩ := fields_rd (enc := enc) (W := W) (sp := sp) (hd := hd) L 0 m cs xs (by omega) hR (by omega) (fun i y hy => by
  have := congrArg (·[i]?) hc
  simpa [hy] using this) (fun i p d hp hd => by
  have hfi : i < fs.toList.length := by
   have := (List.getElem?_eq_some_iff.1 hd).1
   simp; omega
  have e1 := congrArg (·[i]?) hf
  simp only [List.getElem?_map, List.getElem?_eq_getElem hfi, Option.map_some, hp, Option.some.injEq] at e1
  have e2 : fs[i]? = some fs.toList[i] := by simp at hfi; simp [hfi]
  have e3 := hel i _ e2
  subst e1
  refine ⟨e3.trans hd, fun k hk => hwt k ?_⟩
  rw [hx]
  unfold DataW.weights
  simp only [ht]
  refine weightsEach_mem _ _ i _ _ ?_ ?_ k hk
  ·simp only [List.getElem?_map, List.getElem?_eq_getElem hfi, Option.map_some]
  ·simp only [List.getElem?_map, hd, Option.map_some])
 exact ⟨r, r1, by omega, by omega, by simpa using r3⟩
end
theorem rows_of {α : Type} {P : α → Prop} {g : α → List DV} : ∀ {rows : A8}, (∀ q ∈ rows, ∃ x, P x ∧ q = g x) → ∃ l : List α, rows = l.map g ∧ ∀ x ∈ l, P x
 | [], _ => ⟨[], rfl, by simp⟩
 | r :: rows, h => by
  obtain ⟨x, hx, rfl⟩ := h r (List.mem_cons_self ..)
  obtain ⟨l, rfl, hl⟩ := rows_of fun q hq => h q (List.mem_cons_of_mem _ hq)
  exact ⟨x :: l, rfl, fun y hy => by
   rcases List.mem_cons.1 hy with rfl | hy
   ·exact hx
   ·exact hl y hy⟩
end Go.Ev
namespace Go.Ev
open Go Go.RowKit Go.Proofs Go.Proofs.YtbgdnghnfdijnaaGreatDoor Go.ChangeShapes Go.WideShapes Go.ChangeAt
section
variable {H : Type} {enc : TypeId × Value → H} {W : World} {sp : Nat → Bool} {hd : Bool}
theorem Rds.mono {t w : Nat} {P Q : List DV → Prop} (h : Rds enc W sp hd t w P) (k : ∀ r, P r → Q r) : Rds enc W sp hd t w Q := fun n cs x h1 h2 => by
 obtain ⟨r, a, b, c, d⟩ := h n cs x h1 h2
 exact ⟨r, k r a, b, c, d⟩
theorem wf_u64 {a : Int} (h : (Lit.int .u64 a).wf = true) : ∃ n : Nat, a = n ∧ n < 2 ^ 64 := by
 have h' : IntKind.u64.min ≤ a ∧ a ≤ IntKind.u64.max := by simpa [Lit.wf, IntKind.has] using h
 have h1 : IntKind.u64.min = 0 := rfl
 have h2 : IntKind.u64.max = 18446744073709551615 := rfl
 obtain ⟨n, rfl⟩ := Int.eq_ofNat_of_zero_le (h1 ▸ h'.1)
 exact ⟨n, rfl, by have := h'.2; omega⟩
theorem u3 : Tryz.prog.underlying 3 = some (.int .i64) := by kernel_rfl
theorem u39 : Tryz.prog.underlying 39 = some (.int .u64) := by kernel_rfl
theorem u4 : Tryz.prog.underlying 4 = some .bool := by kernel_rfl
theorem r_i : Rds enc W sp hd 3 1 (fun r => ∃ a : Int, r = [di a]) := (rds_int u3).mono fun r ⟨a, _, h⟩ => ⟨a, h⟩
theorem r_u : Rds enc W sp hd 39 1 (fun r => ∃ a : Nat, a < 2 ^ 64 ∧ r = [du a]) := (rds_int u39).mono fun r ⟨a, h, e⟩ => by
 obtain ⟨n, rfl, hn⟩ := wf_u64 h
 exact ⟨n, hn, e⟩
theorem r_b : Rds enc W sp hd 4 1 (fun r => ∃ a : Bool, r = [db a]) := rds_bool u4
theorem fewBytes {n b : Nat} (hb : 8 ≤ b) (h : n * b ≤ reachBytes) : n < 2 ^ 48 := by
 have h1 : reachBytes = 140737488351232 := rfl
 have h2 : n * 8 ≤ n * b := Nat.mul_le_mul_left _ hb
 omega
theorem r_sl {α : Type} {t e w b : Nat} {P : α → Prop} {g : α → List DV} (ht : Tryz.prog.underlying t = some (.slice e)) (hc : Tryz.prog.cellsOf e = w) (h0 : 0 < w) (hb : Tryz.prog.bytesOf e = b) (h8 : 8 ≤ b) (he : Rds enc W sp hd e w (fun r => ∃ a, P a ∧ r = g a)) :
  Rds enc W sp hd t 1 (fun r => ∃ l : List α, (∀ a ∈ l, P a) ∧ l.length < 2 ^ 48 ∧ r = [.mn w (l.map g)]) := (rds_slice ht hc h0 he).mono fun r ⟨rows, h1, h2, h3⟩ => by
 obtain ⟨l, rfl, hl⟩ := rows_of h1
 exact ⟨l, hl, fewBytes h8 (by rw [hb, List.length_map] at h2; exact h2), h3⟩
theorem r_ints : Rds enc W sp hd 29 1 (fun r => ∃ l : List Int, l.length < 2 ^ 48 ∧ r = [.mn 1 (A6 l)]) :=
 (r_sl (P := fun _ => True) (g := fun a : Int => [di a]) (by kernel_rfl : Tryz.prog.underlying 29 = some (.slice 3)) (w := 1) (by kernel_rfl) (by decide) (b := 8) (by kernel_rfl) (by decide) (r_i.mono fun r ⟨a, h⟩ => ⟨a, trivial, h⟩)).mono fun r ⟨l, _, h2, h3⟩ => ⟨l, h2, h3⟩
theorem r_words : Rds enc W sp hd 22 1 (fun r => ∃ l : List Nat, (∀ x ∈ l, x < 2 ^ 64) ∧ l.length < 2 ^ 48 ∧ r = [.mn 1 (An l)]) :=
 r_sl (g := fun a : Nat => [du a]) (by kernel_rfl : Tryz.prog.underlying 22 = some (.slice 39)) (w := 1) (by kernel_rfl) (by decide) (b := 8) (by kernel_rfl) (by decide) r_u
theorem BC {x : Nat × Nat × (List DV → Prop)} {l : List (Nat × Nat × (List DV → Prop))} {r : List DV} (h : FitsL (x :: l) r) : ∃ q s, x.2.2 q ∧ FitsL l s ∧ r = q ++ s := by
 obtain ⟨q, s, h1, _, h2, h3⟩ := h
 exact ⟨q, s, h1, h2, h3⟩
theorem r_tsk : Rds enc W sp hd 102 3 (fun r => ∃ t : Tsk, (0 ≤ t.mask ∧ t.mask < 2 ^ 64) ∧ r = t.cs) :=
 (BK Tryz.underlying102 [(3, 1, fun r => ∃ a : Int, r = [di a]), (39, 1, fun r => ∃ a : Nat, a < 2 ^ 64 ∧ r = [du a]), (3, 1, fun r => ∃ a : Int, r = [di a])] rfl (by kernel_rfl) (by kernel_rfl) rfl
  (by
   intro x hx
   rcases List.mem_cons.1 hx with rfl | hx
   ·exact r_i
   rcases List.mem_cons.1 hx with rfl | hx
   ·exact r_u
   rcases List.mem_cons.1 hx with rfl | hx
   ·exact r_i
   ·cases hx)).mono fun r h => by
  obtain ⟨_, _, ⟨a, rfl⟩, g1, rfl⟩ := BC h
  obtain ⟨_, _, ⟨b, hb, rfl⟩, g2, rfl⟩ := BC g1
  obtain ⟨_, _, ⟨c, rfl⟩, g3, rfl⟩ := BC g2
  obtain rfl : _ = [] := g3
  exact ⟨⟨a, b, c⟩, ⟨by show (0 : Int) ≤ (b : Int); omega, by show (b : Int) < 2 ^ 64; exact_mod_cast hb⟩, rfl⟩
theorem r_nod : Rds enc W sp hd 117 6 (fun r => ∃ n : Nod, n.v < 2 ^ 64 ∧ r = n.cs) :=
 (BK Tryz.underlying117 [(4, 1, fun r => ∃ a : Bool, r = [db a]), (4, 1, fun r => ∃ a : Bool, r = [db a]), (39, 1, fun r => ∃ a : Nat, a < 2 ^ 64 ∧ r = [du a]), (3, 1, fun r => ∃ a : Int, r = [di a]), (3, 1, fun r => ∃ a : Int, r = [di a]), (3, 1, fun r => ∃ a : Int, r = [di a])] rfl (by kernel_rfl) (by kernel_rfl) rfl
  (by
   intro x hx
   rcases List.mem_cons.1 hx with rfl | hx
   ·exact r_b
   rcases List.mem_cons.1 hx with rfl | hx
   ·exact r_b
   rcases List.mem_cons.1 hx with rfl | hx
   ·exact r_u
   rcases List.mem_cons.1 hx with rfl | hx
   ·exact r_i
   rcases List.mem_cons.1 hx with rfl | hx
   ·exact r_i
   rcases List.mem_cons.1 hx with rfl | hx
   ·exact r_i
   ·cases hx)).mono fun r h => by
  obtain ⟨_, _, ⟨a, rfl⟩, g1, rfl⟩ := BC h
  obtain ⟨_, _, ⟨b, rfl⟩, g2, rfl⟩ := BC g1
  obtain ⟨_, _, ⟨c, hc, rfl⟩, g3, rfl⟩ := BC g2
  obtain ⟨_, _, ⟨d, rfl⟩, g4, rfl⟩ := BC g3
  obtain ⟨_, _, ⟨e, rfl⟩, g5, rfl⟩ := BC g4
  obtain ⟨_, _, ⟨f, rfl⟩, g6, rfl⟩ := BC g5
  obtain rfl : _ = [] := g6
  exact ⟨⟨a, b, c, d, e, f⟩, hc, rfl⟩
theorem r_hnd : Rds enc W sp hd 78 2 (fun r => ∃ h : Hnd, True ∧ r = hD h) :=
 (BK Tryz.underlying78 [(3, 1, fun r => ∃ a : Int, r = [di a]), (3, 1, fun r => ∃ a : Int, r = [di a])] rfl (by kernel_rfl) (by kernel_rfl) rfl
  (by
   intro x hx
   rcases List.mem_cons.1 hx with rfl | hx
   ·exact r_i
   rcases List.mem_cons.1 hx with rfl | hx
   ·exact r_i
   ·cases hx)).mono fun r h => by
  obtain ⟨_, _, ⟨a, rfl⟩, g1, rfl⟩ := BC h
  obtain ⟨_, _, ⟨b, rfl⟩, g2, rfl⟩ := BC g1
  obtain rfl : _ = [] := g2
  exact ⟨(a, b), trivial, rfl⟩
theorem r_tasks : Rds enc W sp hd 23 1 (fun r => ∃ l : List Tsk, (∀ t ∈ l, 0 ≤ t.mask ∧ t.mask < 2 ^ 64) ∧ l.length < 2 ^ 48 ∧ r = [.mn 3 (Aq l)]) :=
 r_sl (g := Tsk.cs) (by kernel_rfl : Tryz.prog.underlying 23 = some (.slice 102)) (w := 3) (by kernel_rfl) (by decide) (b := 24) (by kernel_rfl) (by decide) r_tsk
theorem r_nodes : Rds enc W sp hd 36 1 (fun r => ∃ l : List Nod, (∀ n ∈ l, n.v < 2 ^ 64) ∧ l.length < 2 ^ 48 ∧ r = [.mn 6 (A9 l)]) :=
 r_sl (g := Nod.cs) (by kernel_rfl : Tryz.prog.underlying 36 = some (.slice 117)) (w := 6) (by kernel_rfl) (by decide) (b := 40) (by kernel_rfl) (by decide) r_nod
theorem r_hnds : Rds enc W sp hd 44 1 (fun r => ∃ l : List Hnd, l.length < 2 ^ 48 ∧ r = [.mn 2 (Aj l)]) :=
 (r_sl (g := hD) (by kernel_rfl : Tryz.prog.underlying 44 = some (.slice 78)) (w := 2) (by kernel_rfl) (by decide) (b := 16) (by kernel_rfl) (by decide) r_hnd).mono fun r ⟨l, _, h2, h3⟩ => ⟨l, h2, h3⟩
theorem r_stops : Rds enc W sp hd 28 1 (fun r => ∃ l : List (List Hnd), (∀ h ∈ l, h.length < 2 ^ 48) ∧ l.length < 2 ^ 48 ∧ r = [.mn 1 (Ao l)]) :=
 r_sl (g := fun h => [.mn 2 (Aj h)]) (by kernel_rfl : Tryz.prog.underlying 28 = some (.slice 44)) (w := 1) (by kernel_rfl) (by decide) (b := 24) (by kernel_rfl) (by decide) r_hnds
theorem r_lst : Rds enc W sp hd 43 2 (fun r => ∃ l : Lst, l.next.length < 2 ^ 48 ∧ r = l.cs) :=
 (BK Tryz.underlying43 [(3, 1, fun r => ∃ a : Int, r = [di a]), (29, 1, fun r => ∃ l : List Int, l.length < 2 ^ 48 ∧ r = [.mn 1 (A6 l)])] rfl (by kernel_rfl) (by kernel_rfl) rfl
  (by
   intro x hx
   rcases List.mem_cons.1 hx with rfl | hx
   ·exact r_i
   rcases List.mem_cons.1 hx with rfl | hx
   ·exact r_ints
   ·cases hx)).mono fun r h => by
  obtain ⟨_, _, ⟨a, rfl⟩, g1, rfl⟩ := BC h
  obtain ⟨_, _, ⟨b, hb, rfl⟩, g2, rfl⟩ := BC g1
  obtain rfl : _ = [] := g2
  exact ⟨⟨a, b⟩, hb, rfl⟩
theorem r_lists : Rds enc W sp hd 27 1 (fun r => ∃ l : List Lst, (∀ x ∈ l, x.next.length < 2 ^ 48) ∧ l.length < 2 ^ 48 ∧ r = [.mn 2 (As l)]) :=
 r_sl (g := Lst.cs) (by kernel_rfl : Tryz.prog.underlying 27 = some (.slice 43)) (w := 2) (by kernel_rfl) (by decide) (b := 32) (by kernel_rfl) (by decide) r_lst
theorem r_tree : Rds enc W sp hd 38 2 (fun r => ∃ (a : Int) (l : List Nod), (∀ n ∈ l, n.v < 2 ^ 64) ∧ l.length < 2 ^ 48 ∧ r = [di a, .mn 6 (A9 l)]) :=
 (BK Tryz.underlying38 [(3, 1, fun r => ∃ a : Int, r = [di a]), (36, 1, fun r => ∃ l : List Nod, (∀ n ∈ l, n.v < 2 ^ 64) ∧ l.length < 2 ^ 48 ∧ r = [.mn 6 (A9 l)])] rfl (by kernel_rfl) (by kernel_rfl) rfl
  (by
   intro x hx
   rcases List.mem_cons.1 hx with rfl | hx
   ·exact r_i
   rcases List.mem_cons.1 hx with rfl | hx
   ·exact r_nodes
   ·cases hx)).mono fun r h => by
  obtain ⟨_, _, ⟨a, rfl⟩, g1, rfl⟩ := BC h
  obtain ⟨_, _, ⟨b, hb, hl, rfl⟩, g2, rfl⟩ := BC g1
  obtain rfl : _ = [] := g2
  exact ⟨a, b, hb, hl, rfl⟩
def QueWk (q : Que) : Prop := (q.v < 2 ^ 64 ∧ q.m < 2 ^ 64 ∧ ∀ n ∈ q.ns, n.v < 2 ^ 64) ∧ q.ws.length < 2 ^ 48 ∧ q.ns.length < 2 ^ 48
theorem r_que : Rds enc W sp hd 41 7 (fun r => ∃ q : Que, QueWk q ∧ r = q.cs) :=
 (BK Tryz.underlying41 [(38, 2, fun r => ∃ (a : Int) (l : List Nod), (∀ n ∈ l, n.v < 2 ^ 64) ∧ l.length < 2 ^ 48 ∧ r = [di a, .mn 6 (A9 l)]), (3, 1, fun r => ∃ a : Int, r = [di a]), (39, 1, fun r => ∃ a : Nat, a < 2 ^ 64 ∧ r = [du a]), (39, 1, fun r => ∃ a : Nat, a < 2 ^ 64 ∧ r = [du a]), (3, 1, fun r => ∃ a : Int, r = [di a]), (29, 1, fun r => ∃ l : List Int, l.length < 2 ^ 48 ∧ r = [.mn 1 (A6 l)])] rfl (by kernel_rfl) (by kernel_rfl) rfl
  (by
   intro x hx
   rcases List.mem_cons.1 hx with rfl | hx
   ·exact r_tree
   rcases List.mem_cons.1 hx with rfl | hx
   ·exact r_i
   rcases List.mem_cons.1 hx with rfl | hx
   ·exact r_u
   rcases List.mem_cons.1 hx with rfl | hx
   ·exact r_u
   rcases List.mem_cons.1 hx with rfl | hx
   ·exact r_i
   rcases List.mem_cons.1 hx with rfl | hx
   ·exact r_ints
   ·cases hx)).mono fun r h => by
  obtain ⟨_, _, ⟨a, l, h1, h2, rfl⟩, g1, rfl⟩ := BC h
  obtain ⟨_, _, ⟨b, rfl⟩, g2, rfl⟩ := BC g1
  obtain ⟨_, _, ⟨c, hc, rfl⟩, g3, rfl⟩ := BC g2
  obtain ⟨_, _, ⟨d, hd, rfl⟩, g4, rfl⟩ := BC g3
  obtain ⟨_, _, ⟨e, rfl⟩, g5, rfl⟩ := BC g4
  obtain ⟨_, _, ⟨f, hf, rfl⟩, g6, rfl⟩ := BC g5
  obtain rfl : _ = [] := g6
  exact ⟨⟨a, l, b, c, d, e, f⟩, ⟨⟨hc, hd, h1⟩, hf, h2⟩, rfl⟩
theorem r_queues : Rds enc W sp hd 26 1 (fun r => ∃ l : List Que, (∀ q ∈ l, QueWk q) ∧ l.length < 2 ^ 48 ∧ r = [.mn 7 (Ak l)]) :=
 r_sl (g := Que.cs) (by kernel_rfl : Tryz.prog.underlying 26 = some (.slice 41)) (w := 7) (by kernel_rfl) (by decide) (b := 88) (by kernel_rfl) (by decide) r_que
theorem r_table : Rds enc W sp hd 25 2 (fun r => ∃ (l : List Nat) (t : List Tsk), ((∀ x ∈ l, x < 2 ^ 64) ∧ l.length < 2 ^ 48) ∧ ((∀ y ∈ t, 0 ≤ y.mask ∧ y.mask < 2 ^ 64) ∧ t.length < 2 ^ 48) ∧ r = [.mn 1 (An l), .mn 3 (Aq t)]) :=
 (BK Tryz.underlying25 [(22, 1, fun r => ∃ l : List Nat, (∀ x ∈ l, x < 2 ^ 64) ∧ l.length < 2 ^ 48 ∧ r = [.mn 1 (An l)]), (23, 1, fun r => ∃ l : List Tsk, (∀ t ∈ l, 0 ≤ t.mask ∧ t.mask < 2 ^ 64) ∧ l.length < 2 ^ 48 ∧ r = [.mn 3 (Aq l)])] rfl (by kernel_rfl) (by kernel_rfl) rfl
  (by
   intro x hx
   rcases List.mem_cons.1 hx with rfl | hx
   ·exact r_words
   rcases List.mem_cons.1 hx with rfl | hx
   ·exact r_tasks
   ·cases hx)).mono fun r h => by
  obtain ⟨_, _, ⟨a, h1, h2, rfl⟩, g1, rfl⟩ := BC h
  obtain ⟨_, _, ⟨b, h3, h4, rfl⟩, g2, rfl⟩ := BC g1
  obtain rfl : _ = [] := g2
  exact ⟨a, b, ⟨h1, h2⟩, ⟨h3, h4⟩, rfl⟩
theorem r_locks : Rds enc W sp hd 31 1 (fun r => ∃ l : List Int, l.length < 2 ^ 48 ∧ r = [.mn 1 (A6 l)]) :=
 (BK Tryz.underlying31 [(29, 1, fun r => ∃ l : List Int, l.length < 2 ^ 48 ∧ r = [.mn 1 (A6 l)])] rfl (by kernel_rfl) (by kernel_rfl) rfl
  (by
   intro x hx
   rcases List.mem_cons.1 hx with rfl | hx
   ·exact r_ints
   ·cases hx)).mono fun r h => by
  obtain ⟨_, _, ⟨b, h3, rfl⟩, g1, rfl⟩ := BC h
  obtain rfl : _ = [] := g1
  exact ⟨b, h3, rfl⟩
theorem r_world : Rds enc W sp hd 33 6 (fun r => ∃ w : Wld, w.Wk ∧ r = w.cs) :=
 (BK Tryz.underlying33 [(25, 2, fun r => ∃ (l : List Nat) (t : List Tsk), ((∀ x ∈ l, x < 2 ^ 64) ∧ l.length < 2 ^ 48) ∧ ((∀ y ∈ t, 0 ≤ y.mask ∧ y.mask < 2 ^ 64) ∧ t.length < 2 ^ 48) ∧ r = [.mn 1 (An l), .mn 3 (Aq t)]),
   (26, 1, fun r => ∃ l : List Que, (∀ q ∈ l, QueWk q) ∧ l.length < 2 ^ 48 ∧ r = [.mn 7 (Ak l)]), (27, 1, fun r => ∃ l : List Lst, (∀ x ∈ l, x.next.length < 2 ^ 48) ∧ l.length < 2 ^ 48 ∧ r = [.mn 2 (As l)]),
   (28, 1, fun r => ∃ l : List (List Hnd), (∀ h ∈ l, h.length < 2 ^ 48) ∧ l.length < 2 ^ 48 ∧ r = [.mn 1 (Ao l)]), (31, 1, fun r => ∃ l : List Int, l.length < 2 ^ 48 ∧ r = [.mn 1 (A6 l)])] rfl (by kernel_rfl) (by kernel_rfl) rfl
  (by
   intro x hx
   rcases List.mem_cons.1 hx with rfl | hx
   ·exact r_table
   rcases List.mem_cons.1 hx with rfl | hx
   ·exact r_queues
   rcases List.mem_cons.1 hx with rfl | hx
   ·exact r_lists
   rcases List.mem_cons.1 hx with rfl | hx
   ·exact r_stops
   rcases List.mem_cons.1 hx with rfl | hx
   ·exact r_locks
   ·cases hx)).mono fun r h => by
  obtain ⟨_, _, ⟨a, b, h1, h2, rfl⟩, g1, rfl⟩ := BC h
  obtain ⟨_, _, ⟨c, h3, h4, rfl⟩, g2, rfl⟩ := BC g1
  obtain ⟨_, _, ⟨d, h5, h6, rfl⟩, g3, rfl⟩ := BC g2
  obtain ⟨_, _, ⟨e, h7, h8, rfl⟩, g4, rfl⟩ := BC g3
  obtain ⟨_, _, ⟨f, h9, rfl⟩, g5, rfl⟩ := BC g4
  obtain rfl : _ = [] := g5
  exact ⟨⟨a, b, c, d, e, f⟩, ⟨h1.1, h2.1, fun q hq => (h3 q hq).1, h1.2, h2.2, h4, h6, h8, h9, fun q hq => (h3 q hq).2, h5, h7⟩, rfl⟩
theorem r_tellsIn : Rds enc W sp hd 35 7 (fun r => ∃ (w : Wld) (i : Int), w.Wk ∧ r = teC w i) :=
 (BK Tryz.underlying35 [(33, 6, fun r => ∃ w : Wld, w.Wk ∧ r = w.cs), (3, 1, fun r => ∃ a : Int, r = [di a])] rfl (by kernel_rfl) (by kernel_rfl) rfl
  (by
   intro x hx
   rcases List.mem_cons.1 hx with rfl | hx
   ·exact r_world
   rcases List.mem_cons.1 hx with rfl | hx
   ·exact r_i
   ·cases hx)).mono fun r h => by
  obtain ⟨_, _, ⟨w, k, rfl⟩, g1, rfl⟩ := BC h
  obtain ⟨_, _, ⟨i, rfl⟩, g2, rfl⟩ := BC g1
  obtain rfl : _ = [] := g2
  exact ⟨w, i, k, rfl⟩
end
end Go.Ev
