/- What the proof of this claim needs: part MD. No conditions. -/
import Derived.Test.YtgpdnahmgacffaaMC
import Derived.Test.YtgpdnahmgacffaaRows
set_option linter.unusedVariables false
set_option linter.unusedSimpArgs false

namespace Go.Ev
open Go Go.RowKit Go.Proofs

noncomputable def C0 : Ctx := { P := Try.prog }
theorem hm0 : Try.prog.follows .mixedOrders = true := by kernel_rfl
theorem hP0 : PrimOK C0 := fun g spec h => by cases h

def vi (n : Int) : AV := .d (.v (.int .i64 n))
def cmpI (a b : Int) : Int := if a < b then -1 else if b < a then 1 else 0
def compareSpec : List PV → Option (List PV)
  | [.one (.v (.int .i64 a)), .one (.v (.int .i64 b))] => some [.one (.v (.int .i64 (cmpI a b)))]
  | _ => none

theorem compare_lt (a b : Int) : sym C0 noO 60 (.call 39 [vi a, vi b] {}) [(site 47 5, .b false), (site 47 5, .b false), (site 39 16, .b true)] =
    some (.val (vi (-1)) {}, [], [(a != a) = false, (b != b) = false, decide (a < b) = true]) := by kernel_rfl
theorem compare_gt (a b : Int) : sym C0 noO 60 (.call 39 [vi a, vi b] {}) [(site 47 5, .b false), (site 47 5, .b false), (site 39 16, .b false), (site 39 19, .b true)] =
    some (.val (vi 1) {}, [], [(a != a) = false, (b != b) = false, decide (a < b) = false, decide (b < a) = true]) := by kernel_rfl
theorem compare_eq (a b : Int) : sym C0 noO 60 (.call 39 [vi a, vi b] {}) [(site 47 5, .b false), (site 47 5, .b false), (site 39 16, .b false), (site 39 19, .b false)] =
    some (.val (vi 0) {}, [], [(a != a) = false, (b != b) = false, decide (a < b) = false, decide (b < a) = false]) := by kernel_rfl

theorem compare_ev (a b : Int) : Ev C0 noO (.call 39 [vi a, vi b] {}) (.val (vi (cmpI a b)) {}) := by
  unfold cmpI
  split
  · rename_i h
    exact sym_ev _ _ _ _ _ _ (compare_lt a b) (AllP_cons (by simp) (AllP_cons (by simp) (AllP_cons (by simpa using h) AllP_nil)))
  · rename_i h
    split
    · rename_i h2
      exact sym_ev _ _ _ _ _ _ (compare_gt a b) (AllP_cons (by simp) (AllP_cons (by simp) (AllP_cons (by simpa using h) (AllP_cons (by simpa using h2) AllP_nil))))
    · rename_i h2
      exact sym_ev _ _ _ _ _ _ (compare_eq a b) (AllP_cons (by simp) (AllP_cons (by simp) (AllP_cons (by simpa using h) (AllP_cons (by simpa using h2) AllP_nil))))

theorem compare_sat : Sat C0 39 compareSpec := by
  refine sat_of_ev (O := noO) hP0 (fun _ _ h => h.elim) hm0 fun ps rs hs => ?_
  unfold compareSpec at hs
  split at hs
  · rename_i a b
    simp only [Option.some.injEq] at hs
    subst hs
    exact ⟨vi (cmpI a b), {}, {}, compare_ev a b, rfl⟩
  · cases hs

end Go.Ev

namespace Go.Ev
open Go Go.RowKit Go.Proofs

theorem wrap_ok {n : Int} (h1 : -9223372036854775808 ≤ n) (h2 : n < 9223372036854775808) : IntKind.i64.wrap n = n := by
  simp only [IntKind.wrap, IntKind.bits, IntKind.signed]
  simp
  split <;> omega
theorem wrap_succ {i : Nat} (h : i < 2 ^ 62) : IntKind.i64.wrap ((i : Int) + 1) = ((i + 1 : Nat) : Int) := by
  rw [wrap_ok (by omega) (by omega)]; simp

abbrev T : AV := .top
def rowsI (l : List Int) : List (List DV) := l.map fun a => [.v (.int .i64 a)]
def orI : List Int → Int
  | [] => 0
  | a :: r => if a = 0 then orI r else a
def orFind : List Int → Option Int
  | [] => none
  | a :: r => if a = 0 then orFind r else some a

def orHd (sl : AV) (n i : Int) : St := { σ := [T, T, T, vi 0, T, T, sl, vi n, vi i, T, T, T, T, T, T, T, T, T], h := {} }
def orOut : Option Int → X × St
  | none => (.exit 0, { σ := [T, T, T, vi 0, T, T, T, T, T, T, T, T, T, T, T, T, T, T], h := {} })
  | some v => (.ret, { σ := [T, T, vi v, T, T, T, T, T, T, T, T, T, T, T, T, T, T, T], h := {} })

theorem or_end (full : Bool) (rows : List (List DV)) (n i : Int) : symM C0 noO 60 38 false (loopOf Try.prog 38 0) (orHd (.d (.sl 1 full rows)) n i) [(site 38 9, .b false)] [3] =
    some (orOut none, [], [decide (i < n) = false]) := by kernel_rfl
theorem or_hit (full : Bool) (rows : List (List DV)) (n i v : Int) : symM C0 noO 60 38 false (loopOf Try.prog 38 0) (orHd (.d (.sl 1 full rows)) n i) [(site 38 9, .b true), (site 38 10, .row [.v (.int .i64 v)]), (site 38 14, .b true)] [2] =
    some (orOut (some v), [], [decide (i < n) = true, 0 ≤ i ∧ rows[i.toNat]? = some [.v (.int .i64 v)], (v != 0) = true]) := by kernel_rfl
theorem or_miss (full : Bool) (rows : List (List DV)) (n i v i' : Int) (x : X) (s : St) : sym C0 noO 60 (.code 38 false (loopOf Try.prog 38 0) (orHd (.d (.sl 1 full rows)) n i))
      [(site 38 9, .b true), (site 38 10, .row [.v (.int .i64 v)]), (site 38 14, .b false), (site 38 16, .int i'), (site 38 8001, .loop [3, 6, 7, 8] x s)] =
    some (.code x s, [], [decide (i < n) = true, 0 ≤ i ∧ rows[i.toNat]? = some [.v (.int .i64 v)], (v != 0) = false, IntKind.i64.wrap (i + 1) = i',
      Ev C0 noO (.code 38 false (loopOf Try.prog 38 0) (orHd (.d (.sl 1 full rows)) n i')) (.code x s)]) := by kernel_rfl

theorem or_loop (full : Bool) : ∀ (rest pre : List Int), (pre ++ rest).length < 2 ^ 40 →
    Ev C0 noO (.code 38 false (loopOf Try.prog 38 0) (orHd (.d (.sl 1 full (rowsI (pre ++ rest)))) ((pre ++ rest).length : Nat) (pre.length : Nat))) (.code (orOut (orFind rest)).1 (orOut (orFind rest)).2)
  | [], pre, hb => symM_ev (or_end full _ _ _) (AllP_cons (by simp) AllP_nil)
  | v :: rest, pre, hb => by
    have hlt : pre.length < (pre ++ v :: rest).length := by simp
    have hrow : (rowsI (pre ++ v :: rest))[((pre.length : Nat) : Int).toNat]? = some [.v (.int .i64 v)] := by simp [rowsI]
    unfold orFind
    split
    · rename_i h0
      have ih := or_loop full rest (pre ++ [v]) (by simpa using hb)
      simp only [List.append_assoc, List.singleton_append, List.length_append, List.length_singleton] at ih
      refine sym_ev _ _ _ _ _ _ (or_miss full _ _ _ v ((pre.length + 1 : Nat) : Int) _ _) (AllP_cons (decide_eq_true (Int.ofNat_lt.2 hlt)) (AllP_cons ⟨by omega, hrow⟩ (AllP_cons (by simpa using h0) (AllP_cons (wrap_succ (by omega)) (AllP_cons ?_ AllP_nil)))))
      simpa using ih
    · rename_i h0
      exact symM_ev (or_hit full _ _ _ v) (AllP_cons (decide_eq_true (Int.ofNat_lt.2 hlt)) (AllP_cons ⟨by omega, hrow⟩ (AllP_cons (by simpa using h0) AllP_nil)))

theorem or_none (full : Bool) (rows : List (List DV)) (n : Int) : sym C0 noO 60 (.call 38 [.d (.sl 1 full rows)] {}) [(site 38 7, .int n), (site 38 8001, .loop [3, 6, 7, 8] (orOut none).1 (orOut none).2)] =
    some (.val (vi 0) {}, [], [((rows.length : Nat) : Int) = n, Ev C0 noO (.code 38 false (loopOf Try.prog 38 0) (orHd (.d (.sl 1 full rows)) n 0)) (.code (orOut none).1 (orOut none).2)]) := by kernel_rfl
theorem or_some (full : Bool) (rows : List (List DV)) (n v : Int) : sym C0 noO 60 (.call 38 [.d (.sl 1 full rows)] {}) [(site 38 7, .int n), (site 38 8001, .loop [3, 6, 7, 8] (orOut (some v)).1 (orOut (some v)).2)] =
    some (.val (vi v) {}, [], [((rows.length : Nat) : Int) = n, Ev C0 noO (.code 38 false (loopOf Try.prog 38 0) (orHd (.d (.sl 1 full rows)) n 0)) (.code (orOut (some v)).1 (orOut (some v)).2)]) := by kernel_rfl

theorem orI_find (l : List Int) : orI l = (orFind l).getD 0 := by
  induction l with
  | nil => rfl
  | cons a r ih => simp only [orI, orFind]; split <;> simp_all

theorem or_ev (full : Bool) (l : List Int) (hb : l.length < 2 ^ 40) : Ev C0 noO (.call 38 [.d (.sl 1 full (rowsI l))] {}) (.val (vi (orI l)) {}) := by
  have h := or_loop full l [] (by simpa using hb)
  simp only [List.nil_append, List.length_nil] at h
  rw [orI_find]
  cases e : orFind l with
  | none =>
    rw [e] at h
    exact sym_ev _ _ _ _ _ _ (or_none full _ (l.length : Nat)) (AllP_cons (by simp [rowsI]) (AllP_cons h AllP_nil))
  | some v =>
    rw [e] at h
    exact sym_ev _ _ _ _ _ _ (or_some full _ (l.length : Nat) v) (AllP_cons (by simp [rowsI]) (AllP_cons h AllP_nil))

def intR : List DV → Option Int
  | [.v (.int .i64 a)] => some a
  | _ => none
theorem intR_rows {rows : List (List DV)} {l : List Int} (h : allSome intR rows = some l) : rows = rowsI l := by
  induction rows generalizing l with
  | nil => simp [allSome] at h; subst h; rfl
  | cons r rows ih =>
    simp only [allSome] at h
    cases e1 : intR r with
    | none => simp [e1] at h
    | some a =>
      cases e2 : allSome intR rows with
      | none => simp [e1, e2] at h
      | some l' =>
        simp only [e1, e2, Option.some.injEq] at h
        subst h
        unfold intR at e1
        split at e1
        · simp only [Option.some.injEq] at e1; subst e1; rw [ih e2]; rfl
        · cases e1
def orSpec : List PV → Option (List PV)
  | [.one (.sl 1 _ rows)] => match allSome intR rows with
    | some l => if l.length < 2 ^ 40 then some [.one (.v (.int .i64 (orI l)))] else none
    | none => none
  | _ => none
theorem or_sat : Sat C0 38 orSpec := by
  refine sat_of_ev (O := noO) hP0 (fun _ _ h => h.elim) hm0 fun ps rs hs => ?_
  unfold orSpec at hs
  split at hs
  · rename_i full rows
    split at hs
    · rename_i l hl
      split at hs
      · rename_i hb
        simp only [Option.some.injEq] at hs
        subst hs
        rw [intR_rows hl]
        exact ⟨vi (orI l), {}, {}, or_ev full l hb, rfl⟩
      · cases hs
    · cases hs
  · cases hs

end Go.Ev

namespace Go.Ev
open Go Go.RowKit Go.Proofs

theorem PrimOK.add {C : Ctx} {g : FuncId} {spec : List PV → Option (List PV)} {C' : Ctx} (hP : PrimOK C) (hP' : C'.P = C.P) (hG : C'.glob = C.glob) (hs : Sat C g spec) (hb : hasBody C g = true)
    (hp : ∀ f s, C'.prim f = some s → C.prim f = some s ∨ (f = g ∧ s = spec)) : PrimOK C' := by
  intro f s h
  rcases hp f s h with h | ⟨rfl, rfl⟩
  · obtain ⟨h1, h2⟩ := hP f s h
    exact ⟨h1.ctx hP' hG, by rw [hP']; exact h2⟩
  · exact ⟨hs.ctx hP' hG, by rw [hP']; exact hasBody_eq hb⟩

def prim1 (f : FuncId) : Option (List PV → Option (List PV)) :=
  match f with
  | 38 => some orSpec
  | 39 => some compareSpec
  | _ => none
noncomputable def C1 : Ctx := { P := Try.prog, prim := prim1 }
theorem hP1 : PrimOK C1 := by
  intro f s h
  unfold C1 prim1 at h
  simp only at h
  split at h
  · simp only [Option.some.injEq] at h; subst h; exact ⟨or_sat.ctx rfl rfl, hasBody_eq (C := C1) (by kernel_rfl)⟩
  · simp only [Option.some.injEq] at h; subst h; exact ⟨compare_sat.ctx rfl rfl, hasBody_eq (C := C1) (by kernel_rfl)⟩
  · cases h

def pint (n : Int) : PV := .one (.v (.int .i64 n))
def pbool (b : Bool) : PV := .one (.v (.bool b))
def pair (c : Int × Int) : PV := .agg [.v (.int .i64 c.1), .v (.int .i64 c.2)]
def rowI : List DV → Option (Int × Int)
  | [.v (.int .i64 a), .v (.int .i64 b)] => some (a, b)
  | _ => none
theorem rowI_eq {r : List DV} {c : Int × Int} (h : rowI r = some c) : r = [.v (.int .i64 c.1), .v (.int .i64 c.2)] := by
  unfold rowI at h
  split at h
  · simp only [Option.some.injEq] at h; subst h; rfl
  · cases h
def pairOf : PV → Option (Int × Int)
  | .agg r => rowI r
  | _ => none
theorem pairOf_eq {p : PV} {c : Int × Int} (h : pairOf p = some c) : p = pair c := by
  unfold pairOf at h
  split at h
  · rw [rowI_eq h]; rfl
  · cases h

def cmp2 (a b : Int × Int) : Int := orI [cmpI a.1 b.1, cmpI a.2 b.2]
def cmpSpec : List PV → Option (List PV)
  | [p, q] => match pairOf p, pairOf q with
    | some a, some b => some [pint (cmp2 a b)]
    | _, _ => none
  | _ => none
theorem cmp_run (a b : Int × Int) : symV C1 noO 60 37 [pair a, pair b] [] = some ([pint (cmp2 a b)], [], []) := by kernel_rfl
theorem cmp_sat : Sat C1 37 cmpSpec := by
  refine sat_of_ev (O := noO) hP1 (fun _ _ h => h.elim) hm0 fun ps rs hs => ?_
  unfold cmpSpec at hs
  split at hs
  · split at hs
    · rename_i a b ha hb
      simp only [Option.some.injEq] at hs
      subst hs
      rw [pairOf_eq ha, pairOf_eq hb]
      exact symV_ev (cmp_run a b) AllP_nil
    · cases hs
  · cases hs

def aheadI (a b : Int × Int) : Bool := decide (0 ≤ a.2) && decide (a.2 < b.1)
def aheadSpec : List PV → Option (List PV)
  | [p, q] => match pairOf p, pairOf q with
    | some a, some b => some [pbool (aheadI a b)]
    | _, _ => none
  | _ => none
theorem ahead_no (a b : Int × Int) : symV C1 noO 60 33 [pair a, pair b] [(site 33 7, .b false)] = some ([pbool false], [], [decide (a.2 ≥ 0) = false]) := by kernel_rfl
theorem ahead_yes (a b : Int × Int) (t : Bool) : symV C1 noO 60 33 [pair a, pair b] [(site 33 7, .b true), (site 33 13, .b t)] = some ([pbool t], [], [decide (a.2 ≥ 0) = true, decide (a.2 < b.1) = t]) := by kernel_rfl
theorem ahead_sat : Sat C1 33 aheadSpec := by
  refine sat_of_ev (O := noO) hP1 (fun _ _ h => h.elim) hm0 fun ps rs hs => ?_
  unfold aheadSpec at hs
  split at hs
  · split at hs
    · rename_i a b ha hb
      simp only [Option.some.injEq] at hs
      subst hs
      rw [pairOf_eq ha, pairOf_eq hb]
      unfold aheadI
      by_cases h : 0 ≤ a.2
      · have := symV_ev (ahead_yes a b (decide (a.2 < b.1))) (AllP_cons (by simpa using h) (AllP_cons rfl AllP_nil))
        simpa [h] using this
      · have := symV_ev (ahead_no a b) (AllP_cons (by simpa using h) AllP_nil)
        simpa [h] using this
    · cases hs
  · cases hs

end Go.Ev

namespace Go.Ev
open Go Go.RowKit Go.Proofs

theorem still_program {P : Program} : still P program = some P := rfl
theorem still_pure {P : Program} {α : Type} (a : α) : still P (pure a : Sem α) = some a := rfl
theorem still_und {P : Program} {t : TypeId} {td : TypeDesc} (h : P.underlying t = some td) : still P (underlying t) = some td := by
  simp only [underlying, still_bind, still_program, h, still_pure]

theorem und23 : Try.prog.underlying 23 = some (.array 2 3) := by kernel_rfl
theorem und3 : Try.prog.underlying 3 = some (.int .i64) := by kernel_rfl

theorem size3 : still Try.prog (sizeOf 3) = some 1 := by kernel_rfl
theorem part_0 (x y : Int) : still Try.prog (part 3 #[.int .i64 x, .int .i64 y] 0) = some (.int .i64 x) := by kernel_rfl
theorem part_1 (x y : Int) : still Try.prog (part 3 #[.int .i64 x, .int .i64 y] 1) = some (.int .i64 y) := by kernel_rfl
theorem eq_int (d : Nat) (a b : Int) : still Try.prog (Op.equalIn (d + 1) 3 (.int .i64 a) (.int .i64 b)) = some (a == b) := by
  simp only [Op.equalIn, still_bind, still_und und3]
  simp [still_pure]

theorem eq2 (d : Nat) (a b : Int × Int) : still Try.prog (Op.equalIn (d + 2) 23 (.agg #[.int .i64 a.1, .int .i64 a.2]) (.agg #[.int .i64 b.1, .int .i64 b.2])) = some (decide (a = b)) := by
  rw [show d + 2 = (d + 1) + 1 from rfl]
  rw [Op.equalIn]
  simp only [still_bind, still_und und23, size3]
  simp only [Std.Legacy.Range.forIn_eq_forIn_range', Std.Legacy.Range.size, Nat.sub_zero, Nat.add_sub_cancel, Nat.div_one, List.range'_succ, List.range'_zero, List.forIn_cons, List.forIn_nil, still_bind, Nat.zero_mul, Nat.zero_add, Nat.mul_one, part_0, part_1, eq_int]
  obtain ⟨a1, a2⟩ := a
  obtain ⟨b1, b2⟩ := b
  by_cases h1 : a1 = b1
  · subst h1
    by_cases h2 : a2 = b2
    · subst h2
      simp [still_bind, part_1, eq_int, still_pure]
    · have e : (a2 == b2) = false := by simpa using h2
      simp [still_bind, part_1, eq_int, still_pure, e, h2]
  · have e : (a1 == b1) = false := by simpa using h1
    simp [still_pure, e, h1]

theorem eq2' (a b : Int × Int) : still Try.prog (Op.equal 23 (.agg #[.int .i64 a.1, .int .i64 a.2]) (.agg #[.int .i64 b.1, .int .i64 b.2])) = some (decide (a = b)) := eq2 9998 a b

def sliceRows : PV → Option (List (List DV))
  | .one (.v (.slice none 0 0)) => some []
  | .one (.sl 2 _ rows) => some rows
  | _ => none

def clipSpec : List PV → Option (List PV)
  | [.one (.v (.slice none 0 0))] => some [.one (.v (.slice none 0 0))]
  | [.one (.sl 2 _ rows)] => some [.one (.sl 2 true rows)]
  | _ => none
theorem clip_nil : symV C1 noO 60 53 [.one (.v (.slice none 0 0))] [] = some ([.one (.v (.slice none 0 0))], [], []) := by kernel_rfl
theorem clip_run (full : Bool) (rows : List (List DV)) (n : Nat) : symV C1 noO 60 53 [.one (.sl 2 full rows)] [(site 53 8, .cut 0 n n (.d (.sl 2 true rows)))] =
    some ([.one (.sl 2 true rows)], [], [cutGoal 2 (.d (.sl 2 full rows)) none (some (rows.length : Nat)) (some (rows.length : Nat)) 0 n n (.d (.sl 2 true rows))]) := by kernel_rfl
theorem clip_sat : Sat C1 53 clipSpec := by
  refine sat_of_ev (O := noO) hP1 (fun _ _ h => h.elim) hm0 fun ps rs hs => ?_
  unfold clipSpec at hs
  split at hs
  · simp only [Option.some.injEq] at hs
    subst hs
    exact symV_ev clip_nil AllP_nil
  · rename_i full rows
    simp only [Option.some.injEq] at hs
    subst hs
    exact symV_ev (clip_run full rows rows.length) (AllP_cons (by simp [cutGoal, bnd]) AllP_nil)
  · cases hs

def cloneSpec : List PV → Option (List PV)
  | [.one (.v (.slice none 0 0))] => some [.one (.v (.slice none 0 0))]
  | [.one (.sl 2 _ rows)] => if rows.length < 2 ^ 40 then some [.one (.sl 2 rows.isEmpty rows)] else none
  | _ => none
theorem clone_nil : symV C1 noO 60 49 [.one (.v (.slice none 0 0))] [] = some ([.one (.v (.slice none 0 0))], [], []) := by kernel_rfl
theorem clone_none (full : Bool) (rows : List (List DV)) : symV C1 noO 60 49 [.one (.sl 2 full rows)] [(site 49 7, .app true)] =
    some ([.one (.sl 2 true [])], [], [rows.isEmpty = true]) := by kernel_rfl
theorem clone_some (full : Bool) (rows : List (List DV)) : symV C1 noO 60 49 [.one (.sl 2 full rows)] [(site 49 7, .app false)] =
    some ([.one (.sl 2 false rows)], [], [rows.isEmpty = false ∧ fitsP 0 rows.length 16]) := by kernel_rfl
theorem clone_sat : Sat C1 49 cloneSpec := by
  refine sat_of_ev (O := noO) hP1 (fun _ _ h => h.elim) hm0 fun ps rs hs => ?_
  unfold cloneSpec at hs
  split at hs
  · simp only [Option.some.injEq] at hs
    subst hs
    exact symV_ev clone_nil AllP_nil
  · rename_i full rows
    split at hs
    · rename_i hb
      simp only [Option.some.injEq] at hs
      subst hs
      cases e : rows.isEmpty with
      | true =>
        have : rows = [] := by simpa using e
        subst this
        exact symV_ev (clone_none full []) (AllP_cons rfl AllP_nil)
      | false => exact symV_ev (clone_some full rows) (AllP_cons ⟨e, by unfold fitsP; omega⟩ AllP_nil)
    · cases hs
  · cases hs

end Go.Ev

namespace Go.Ev
open Go Go.RowKit Go.Proofs

def rowsP (l : List (Int × Int)) : List (List DV) := l.map fun a => [.v (.int .i64 a.1), .v (.int .i64 a.2)]
def aggP (c : Int × Int) : AV := .agg [vi c.1, vi c.2]
def rowP (c : Int × Int) : List DV := [.v (.int .i64 c.1), .v (.int .i64 c.2)]
def vP (c : Int × Int) : Value := .agg #[.int .i64 c.1, .int .i64 c.2]
def ixH (c : Int × Int) : H := ({} : H).push (site 65 3) (.cells [vi c.1, vi c.2] false)
def ixHd (sl : AV) (c : Int × Int) (n i : Int) : St := { σ := [sl, T, T, .ptr (site 65 3) 0 0, T, T, sl, vi n, vi i, T, T, T, T, T, T, T, T, T, T], h := ixH c }
def ixOut (c : Int × Int) : Option Nat → X × St
  | none => (.exit 0, { σ := [T, T, T, T, T, T, T, T, T, T, T, T, T, T, T, T, T, T, T], h := ixH c })
  | some i => (.ret, { σ := [T, T, T, T, vi (i : Int), T, T, T, T, T, T, T, T, T, T, T, T, T, T], h := ixH c })

theorem ix_end (full : Bool) (rows : List (List DV)) (c : Int × Int) (n i : Int) : symM C1 noO 60 65 false (loopOf Try.prog 65 0) (ixHd (.d (.sl 2 full rows)) c n i) [(site 65 9, .b false)] [] =
    some (ixOut c none, [], [decide (i < n) = false]) := by kernel_rfl
theorem ix_hit (full : Bool) (rows : List (List DV)) (c x : Int × Int) (n : Int) (i : Nat) : symM C1 noO 60 65 false (loopOf Try.prog 65 0) (ixHd (.d (.sl 2 full rows)) c n i)
      [(site 65 9, .b true), (site 65 14, .row (rowP x)), (site 65 16, .eqv true)] [4] =
    some (ixOut c (some i), [], [decide ((i : Int) < n) = true, 0 ≤ (i : Int) ∧ rows[(i : Int).toNat]? = some (rowP x), still Try.prog (Op.equal 23 (vP c) (vP x)) = some true]) := by kernel_rfl
theorem ix_miss (full : Bool) (rows : List (List DV)) (c x : Int × Int) (n i i' : Int) (xx : X) (s : St) : sym C1 noO 60 (.code 65 false (loopOf Try.prog 65 0) (ixHd (.d (.sl 2 full rows)) c n i))
      [(site 65 9, .b true), (site 65 14, .row (rowP x)), (site 65 16, .eqv false), (site 65 18, .int i'), (site 65 8001, .loop [0, 3, 6, 7, 8] xx s)] =
    some (.code xx s, [], [decide (i < n) = true, 0 ≤ i ∧ rows[i.toNat]? = some (rowP x), still Try.prog (Op.equal 23 (vP c) (vP x)) = some false, IntKind.i64.wrap (i + 1) = i',
      Ev C1 noO (.code 65 false (loopOf Try.prog 65 0) (ixHd (.d (.sl 2 full rows)) c n i')) (.code xx s)]) := by kernel_rfl

def ixFind (c : Int × Int) : Nat → List (Int × Int) → Option Nat
  | _, [] => none
  | i, x :: r => if c = x then some i else ixFind c (i + 1) r

theorem ix_loop (full : Bool) (c : Int × Int) : ∀ (rest pre : List (Int × Int)), (pre ++ rest).length < 2 ^ 40 →
    Ev C1 noO (.code 65 false (loopOf Try.prog 65 0) (ixHd (.d (.sl 2 full (rowsP (pre ++ rest)))) c ((pre ++ rest).length : Nat) (pre.length : Nat))) (.code (ixOut c (ixFind c pre.length rest)).1 (ixOut c (ixFind c pre.length rest)).2)
  | [], pre, hb => symM_ev (ix_end full _ c _ _) (AllP_cons (by simp) AllP_nil)
  | x :: rest, pre, hb => by
    have hlt : pre.length < (pre ++ x :: rest).length := by simp
    have hrow : (rowsP (pre ++ x :: rest))[((pre.length : Nat) : Int).toNat]? = some (rowP x) := by simp [rowsP, rowP]
    unfold ixFind
    split
    · rename_i h0
      exact symM_ev (ix_hit full _ c x _ pre.length) (AllP_cons (decide_eq_true (Int.ofNat_lt.2 hlt)) (AllP_cons ⟨by omega, hrow⟩ (AllP_cons (by rw [vP, vP, eq2' c x]; simp [h0]) AllP_nil)))
    · rename_i h0
      have ih := ix_loop full c rest (pre ++ [x]) (by simpa using hb)
      simp only [List.append_assoc, List.singleton_append, List.length_append, List.length_singleton] at ih
      refine sym_ev _ _ _ _ _ _ (ix_miss full _ c x _ _ ((pre.length + 1 : Nat) : Int) _ _) (AllP_cons (decide_eq_true (Int.ofNat_lt.2 hlt)) (AllP_cons ⟨by omega, hrow⟩ (AllP_cons (by rw [vP, vP, eq2' c x]; simp [h0]) (AllP_cons (wrap_succ (by omega)) (AllP_cons ?_ AllP_nil)))))
      simpa using ih

def ixI (c : Int × Int) (l : List (Int × Int)) : Int := match ixFind c 0 l with
  | some i => i
  | none => -1
theorem ix_none (full : Bool) (rows : List (List DV)) (c : Int × Int) (n : Int) : symV C1 noO 60 65 [.one (.sl 2 full rows), pair c] [(site 65 7, .int n), (site 65 8001, .loop [0, 3, 6, 7, 8] (ixOut c none).1 (ixOut c none).2)] =
    some ([pint (-1)], [], [((rows.length : Nat) : Int) = n, Ev C1 noO (.code 65 false (loopOf Try.prog 65 0) (ixHd (.d (.sl 2 full rows)) c n 0)) (.code (ixOut c none).1 (ixOut c none).2)]) := by kernel_rfl
theorem ix_some (full : Bool) (rows : List (List DV)) (c : Int × Int) (n : Int) (i : Nat) : symV C1 noO 60 65 [.one (.sl 2 full rows), pair c] [(site 65 7, .int n), (site 65 8001, .loop [0, 3, 6, 7, 8] (ixOut c (some i)).1 (ixOut c (some i)).2)] =
    some ([pint i], [], [((rows.length : Nat) : Int) = n, Ev C1 noO (.code 65 false (loopOf Try.prog 65 0) (ixHd (.d (.sl 2 full rows)) c n 0)) (.code (ixOut c (some i)).1 (ixOut c (some i)).2)]) := by kernel_rfl
theorem ix_nil (c : Int × Int) : symV C1 noO 60 65 [.one (.v (.slice none 0 0)), pair c] [] = some ([pint (-1)], [], []) := by kernel_rfl

theorem rowsP_eq {rows : List (List DV)} {l : List (Int × Int)} (h : allSome rowI rows = some l) : rows = rowsP l := by
  induction rows generalizing l with
  | nil => simp [allSome] at h; subst h; rfl
  | cons r rows ih =>
    simp only [allSome] at h
    cases e1 : rowI r with
    | none => simp [e1] at h
    | some a =>
      cases e2 : allSome rowI rows with
      | none => simp [e1, e2] at h
      | some l' =>
        simp only [e1, e2, Option.some.injEq] at h
        subst h
        rw [ih e2, rowI_eq e1]; rfl

def indexSpec : List PV → Option (List PV)
  | [.one (.v (.slice none 0 0)), q] => match pairOf q with
    | some c => some [pint (-1)]
    | none => none
  | [.one (.sl 2 _ rows), q] => match pairOf q, allSome rowI rows with
    | some c, some l => if l.length < 2 ^ 40 then some [pint (ixI c l)] else none
    | _, _ => none
  | _ => none
theorem index_sat : Sat C1 65 indexSpec := by
  refine sat_of_ev (O := noO) hP1 (fun _ _ h => h.elim) hm0 fun ps rs hs => ?_
  unfold indexSpec at hs
  split at hs
  · split at hs
    · rename_i c hc
      simp only [Option.some.injEq] at hs
      subst hs
      rw [pairOf_eq hc]
      exact symV_ev (ix_nil c) AllP_nil
    · cases hs
  · rename_i full rows q
    split at hs
    · rename_i c l hc hl
      split at hs
      · rename_i hb
        simp only [Option.some.injEq] at hs
        subst hs
        rw [pairOf_eq hc, rowsP_eq hl]
        have h := ix_loop full c l [] (by simpa using hb)
        simp only [List.nil_append, List.length_nil] at h
        unfold ixI
        cases e : ixFind c 0 l with
        | none =>
          rw [e] at h
          exact symV_ev (ix_none full _ c (l.length : Nat)) (AllP_cons (by simp [rowsP]) (AllP_cons h AllP_nil))
        | some i =>
          rw [e] at h
          exact symV_ev (ix_some full _ c (l.length : Nat) i) (AllP_cons (by simp [rowsP]) (AllP_cons h AllP_nil))
      · cases hs
    · cases hs
  · cases hs

end Go.Ev

namespace Go.Ev
open Go Go.RowKit Go.Proofs

def prim2 (f : FuncId) : Option (List PV → Option (List PV)) :=
  match f with
  | 33 => some aheadSpec
  | 37 => some cmpSpec
  | 38 => some orSpec
  | 39 => some compareSpec
  | 49 => some cloneSpec
  | 53 => some clipSpec
  | 65 => some indexSpec
  | _ => none
noncomputable def C2 : Ctx := { P := Try.prog, prim := prim2 }
theorem hP2 : PrimOK C2 := by
  intro f s h
  unfold C2 prim2 at h
  simp only at h
  split at h
  · simp only [Option.some.injEq] at h; subst h; exact ⟨ahead_sat.ctx rfl rfl, hasBody_eq (C := C2) (by kernel_rfl)⟩
  · simp only [Option.some.injEq] at h; subst h; exact ⟨cmp_sat.ctx rfl rfl, hasBody_eq (C := C2) (by kernel_rfl)⟩
  · simp only [Option.some.injEq] at h; subst h; exact ⟨or_sat.ctx rfl rfl, hasBody_eq (C := C2) (by kernel_rfl)⟩
  · simp only [Option.some.injEq] at h; subst h; exact ⟨compare_sat.ctx rfl rfl, hasBody_eq (C := C2) (by kernel_rfl)⟩
  · simp only [Option.some.injEq] at h; subst h; exact ⟨clone_sat.ctx rfl rfl, hasBody_eq (C := C2) (by kernel_rfl)⟩
  · simp only [Option.some.injEq] at h; subst h; exact ⟨clip_sat.ctx rfl rfl, hasBody_eq (C := C2) (by kernel_rfl)⟩
  · simp only [Option.some.injEq] at h; subst h; exact ⟨index_sat.ctx rfl rfl, hasBody_eq (C := C2) (by kernel_rfl)⟩
  · cases h

theorem ixI_contains (c : Int × Int) (l : List (Int × Int)) : decide (ixI c l ≥ 0) = l.contains c := by
  have key : ∀ (l : List (Int × Int)) (i : Nat), (ixFind c i l).isSome = l.contains c := by
    intro l
    induction l with
    | nil => intro i; rfl
    | cons x r ih =>
      intro i
      simp only [ixFind]
      by_cases h : c = x
      · subst h; simp
      · have e : (c == x) = false := by simpa using h
        simp [h, e, ih]
  unfold ixI
  rw [← key l 0]
  cases ixFind c 0 l with
  | none => rfl
  | some i => simp

theorem contains_nil (c : Int × Int) : symV C2 noO 60 50 [.one (.v (.slice none 0 0)), pair c] [] = some ([pbool false], [], []) := by kernel_rfl
theorem contains_run (full : Bool) (rows : List (List DV)) (c : Int × Int) (n : Int) (t : Bool) : symV C2 noO 60 50 [.one (.sl 2 full rows), pair c] [(site 50 7, .prim [pint n]), (site 50 8, .b t)] =
    some ([pbool t], [], [indexSpec [.one (.sl 2 full rows), pair c] = some [pint n], decide (n ≥ 0) = t]) := by kernel_rfl

def containsSpec : List PV → Option (List PV)
  | [.one (.v (.slice none 0 0)), q] => match pairOf q with
    | some c => some [pbool false]
    | none => none
  | [.one (.sl 2 _ rows), q] => match pairOf q, allSome rowI rows with
    | some c, some l => if l.length < 2 ^ 40 then some [pbool (l.contains c)] else none
    | _, _ => none
  | _ => none
theorem contains_sat : Sat C2 50 containsSpec := by
  refine sat_of_ev (O := noO) hP2 (fun _ _ h => h.elim) hm0 fun ps rs hs => ?_
  unfold containsSpec at hs
  split at hs
  · split at hs
    · rename_i c hc
      simp only [Option.some.injEq] at hs
      subst hs
      rw [pairOf_eq hc]
      exact symV_ev (contains_nil c) AllP_nil
    · cases hs
  · rename_i full rows q
    split at hs
    · rename_i c l hc hl
      split at hs
      · rename_i hb
        simp only [Option.some.injEq] at hs
        subst hs
        rw [pairOf_eq hc]
        have hp : pairOf (pair c) = some c := rfl
        exact symV_ev (contains_run full rows c (ixI c l) (l.contains c)) (AllP_cons (by simp [indexSpec, hp, hl, hb]) (AllP_cons (ixI_contains c l) AllP_nil))
      · cases hs
    · cases hs
  · cases hs

end Go.Ev

namespace Go.Ev
open Go Go.RowKit Go.Proofs

abbrev wr64 : Int → Int := IntKind.i64.wrap
def di (n : Int) : DV := .v (.int .i64 n)
def db (b : Bool) : DV := .v (.bool b)
def vb (b : Bool) : AV := .d (.v (.bool b))
structure Ans where
  errno : Int
  n : Int
  slot : Int
  gen : Int
  deriving DecidableEq
structure Evt where
  th : Int
  ca : Int
  re : Bool
  an : Ans
  deriving DecidableEq
def Evt.row (e : Evt) : List DV := [di e.th, di e.ca, db e.re, di e.an.errno, di e.an.n, di e.an.slot, di e.an.gen]
def evRows (l : List Evt) : List (List DV) := l.map Evt.row
def evtI : List DV → Option Evt
  | [.v (.int .i64 th), .v (.int .i64 ca), .v (.bool re), .v (.int .i64 a), .v (.int .i64 b), .v (.int .i64 c), .v (.int .i64 d)] => some ⟨th, ca, re, ⟨a, b, c, d⟩⟩
  | _ => none
theorem evtI_eq {r : List DV} {e : Evt} (h : evtI r = some e) : r = e.row := by
  unfold evtI at h
  split at h
  · simp only [Option.some.injEq] at h; subst h; rfl
  · cases h
theorem evtI_row (e : Evt) : evtI e.row = some e := rfl
theorem rows_eq {α β : Type} {f : β → Option α} {g : α → β} (hf : ∀ r a, f r = some a → r = g a) {rows : List β} {l : List α} (h : allSome f rows = some l) : rows = l.map g := by
  induction rows generalizing l with
  | nil => simp [allSome] at h; subst h; rfl
  | cons r rows ih =>
    simp only [allSome] at h
    cases e1 : f r with
    | none => simp [e1] at h
    | some a =>
      cases e2 : allSome f rows with
      | none => simp [e1, e2] at h
      | some l' =>
        simp only [e1, e2, Option.some.injEq] at h
        subst h
        rw [ih e2, hf r a e1]; rfl
theorem allSome_map {α β : Type} {f : β → Option α} {g : α → β} (hf : ∀ a, f (g a) = some a) (l : List α) : allSome f (l.map g) = some l := by
  induction l with
  | nil => rfl
  | cons a l ih => simp [allSome, hf, ih]

/-- what stands in a slice by value -/
def sliceOf (sz : Nat) : PV → Option (List (List DV))
  | .one (.v (.slice none 0 0)) => some []
  | .one (.sl s _ rows) => if s = sz then some rows else none
  | _ => none
theorem sliceOf_cases {sz : Nat} {p : PV} {rows : List (List DV)} (h : sliceOf sz p = some rows) : (p = .one (.v (.slice none 0 0)) ∧ rows = []) ∨ ∃ full, p = .one (.sl sz full rows) := by
  unfold sliceOf at h
  split at h
  · simp only [Option.some.injEq] at h; exact .inl ⟨rfl, h.symm⟩
  · rename_i s f r
    split at h
    · rename_i hs
      simp only [Option.some.injEq] at h
      subst hs; subst h
      exact .inr ⟨f, rfl⟩
    · cases h
  · cases h
def evtsOf (p : PV) : Option (List Evt) := match sliceOf 7 p with
  | some rows => allSome evtI rows
  | none => none
theorem evtsOf_cases {p : PV} {l : List Evt} (h : evtsOf p = some l) : (p = .one (.v (.slice none 0 0)) ∧ l = []) ∨ ∃ full, p = .one (.sl 7 full (evRows l)) := by
  unfold evtsOf at h
  split at h
  · rename_i rows hr
    rcases sliceOf_cases hr with ⟨rfl, rfl⟩ | ⟨full, rfl⟩
    · simp [allSome] at h; exact .inl ⟨rfl, h⟩
    · exact .inr ⟨full, by rw [rows_eq (g := Evt.row) (fun _ _ => evtI_eq) h]; rfl⟩
  · cases h
def callsOf (p : PV) : Option (List (Int × Int)) := match sliceOf 2 p with
  | some rows => allSome rowI rows
  | none => none
theorem callsOf_cases {p : PV} {l : List (Int × Int)} (h : callsOf p = some l) : (p = .one (.v (.slice none 0 0)) ∧ l = []) ∨ ∃ full, p = .one (.sl 2 full (rowsP l)) := by
  unfold callsOf at h
  split at h
  · rename_i rows hr
    rcases sliceOf_cases hr with ⟨rfl, rfl⟩ | ⟨full, rfl⟩
    · simp [allSome] at h; exact .inl ⟨rfl, h⟩
    · exact .inr ⟨full, by rw [rowsP_eq h]⟩
  · cases h

theorem dlt {k n : Nat} (h : k < n) : decide ((k : Int) < (n : Int)) = true := decide_eq_true (Int.ofNat_lt.2 h)
theorem dge {k n : Nat} (h : n ≤ k) : decide ((k : Int) < (n : Int)) = false := decide_eq_false (by omega)
theorem row_at {α : Type} {g : α → List DV} {pre rest all : List α} {e : α} (h : pre ++ e :: rest = all) : 0 ≤ (pre.length : Int) ∧ (all.map g)[Int.toNat (pre.length : Int)]? = some (g e) := by
  subst h
  exact ⟨by omega, by simp⟩
theorem pre_lt {α : Type} {pre rest all : List α} {e : α} (h : pre ++ e :: rest = all) : pre.length < all.length := by subst h; simp
theorem pre_snoc {α : Type} {pre rest all : List α} {e : α} (h : pre ++ e :: rest = all) : (pre ++ [e]) ++ rest = all := by simpa using h
theorem len_snoc {α : Type} (pre : List α) (e : α) : (pre ++ [e]).length = pre.length + 1 := by simp

/-! ### keys -/
theorem check23 (b : Bool) (c : Int × Int) : still Try.prog (Instr.checkKey b 10000 23 (vP c)) = some () := by kernel_rfl
theorem und59 : Try.prog.underlying 59 = some (.map 23 62) := by kernel_rfl
theorem und80 : Try.prog.underlying 80 = some (.map 23 4) := by kernel_rfl
theorem zero62 {C : Ctx} (hC : C.P = Try.prog) : zeroT C 62 = some (.agg #[.int .i64 0, .int .i64 0]) := by unfold zeroT; rw [hC]; kernel_rfl
theorem zero4 {C : Ctx} (hC : C.P = Try.prog) : zeroT C 4 = some (.bool false) := by unfold zeroT; rw [hC]; kernel_rfl

theorem findAsk23 (c : Int × Int) : ∀ (ks : List (Int × Int)) (l : List MapEntry) (i : Nat), l.map (·.key) = ks.map vP → (∀ m ∈ l, m.val = undef) →
    still Try.prog (Instr.findAsking 23 (vP c) l i) = some (match ixFind c i ks with | some j => some (j, undef) | none => none)
  | [], l, i, h, _ => by
    have : l = [] := by simpa using h
    subst this; rfl
  | k :: ks, [], i, h, _ => by simp at h
  | k :: ks, m :: l, i, h, hv => by
    simp only [List.map_cons, List.cons.injEq] at h
    unfold Instr.findAsking
    rw [h.1]
    simp only [still_bind]
    rw [show still Try.prog (Op.equal 23 (vP c) (vP k)) = some (decide (c = k)) from eq2' c k]
    simp only
    unfold ixFind
    by_cases e : c = k
    · simp [e, still_pure, hv m (by simp)]
    · simp [e]
      exact findAsk23 c ks l (i + 1) h.2 (fun x hx => hv x (by simp [hx]))

theorem findKey23 (c : Int × Int) (ks : List (Int × Int)) (l : List MapEntry) (h : l.map (·.key) = ks.map vP) (hv : ∀ m ∈ l, m.val = undef) :
    still Try.prog (Instr.findKey 23 (vP c) l) = some (match ixFind c 0 ks with | some j => some (j, undef) | none => none) := by
  unfold Instr.findKey
  simp only [still_bind, still_und und23]
  cases ks with
  | nil =>
    have : l = [] := by simpa using h
    subst this; rfl
  | cons k ks =>
    cases l with
    | nil => simp at h
    | cons m l =>
      have hk : m.key = vP k := by simpa using (List.cons.inj h).1
      have hn : Instr.findNow (.array 2 3) (vP c) (m :: l) 0 = none := by
        unfold Instr.findNow
        rw [hk]
        rfl
      rw [hn]
      exact findAsk23 c (k :: ks) (m :: l) 0 h hv

theorem ixFind_lt {c : Int × Int} : ∀ {ks : List (Int × Int)} {i j : Nat}, ixFind c i ks = some j → i ≤ j ∧ j < i + ks.length ∧ ks[j - i]? = some c
  | [], i, j, h => by simp [ixFind] at h
  | k :: ks, i, j, h => by
    unfold ixFind at h
    split at h
    · rename_i e
      simp at h; subst h; subst e
      simp
    · obtain ⟨h1, h2, h3⟩ := ixFind_lt h
      refine ⟨by omega, by simp; omega, ?_⟩
      rw [show j - i = (j - (i + 1)) + 1 by omega]
      simpa using h3

theorem keyAt23 {C : Ctx} (hC : C.P = Try.prog) (c : Int × Int) (ks : List (Int × Int)) (es : List (Value × Bool × List DV)) (h : es.map (·.1) = ks.map vP) :
    keyAt C 23 (vP c) es = match ixFind c 0 ks with
      | some i => match es[i]? with | some e => some (some (i, e.2)) | none => none
      | none => some none := by
  unfold keyAt
  rw [hC, findKey23 c ks _ (by simpa [Function.comp_def] using h) (by simp only [List.mem_map, forall_exists_index, and_imp]; rintro m x - rfl; rfl)]
  cases ixFind c 0 ks <;> rfl

abbrev MapE := List ((Int × Int) × (Int × Int))
def entA (e : (Int × Int) × (Int × Int)) : Value × Bool × List DV := (vP e.1, true, [di e.2.1, di e.2.2])
def getKV (c : Int × Int) : MapE → Option (Int × Int)
  | [] => none
  | e :: r => if c = e.1 then some e.2 else getKV c r
def setKV (c v : Int × Int) : MapE → MapE
  | [] => [(c, v)]
  | e :: r => if c = e.1 then (c, v) :: r else e :: setKV c v r
theorem entA_keys (m : MapE) : (m.map entA).map (·.1) = (m.map (·.1)).map vP := by simp [Function.comp_def, entA]
theorem getKV_find (c : Int × Int) : ∀ (m : MapE) (i : Nat), (getKV c m = none ∧ ixFind c i (m.map (·.1)) = none) ∨ ∃ j e, ixFind c i (m.map (·.1)) = some (i + j) ∧ m[j]? = some e ∧ getKV c m = some e.2 ∧ e.1 = c ∧ ∀ v, setKV c v m = m.set j (c, v)
  | [], i => .inl ⟨rfl, rfl⟩
  | e :: r, i => by
    simp only [getKV, List.map_cons, ixFind, setKV]
    by_cases h : c = e.1
    · right
      exact ⟨0, e, by simp [h], by simp, by simp [h], h.symm, fun v => by simp [h]⟩
    · rcases getKV_find c r (i + 1) with ⟨h1, h2⟩ | ⟨j, e', h1, h2, h3, h4, h5⟩
      · left; simp [h, h1, h2]
      · right
        refine ⟨j + 1, e', by simp [h, h1]; omega, by simpa using h2, by simp [h, h3], h4, fun v => by simp [h, h5]⟩
theorem setKV_new (c v : Int × Int) : ∀ (m : MapE), getKV c m = none → setKV c v m = m ++ [(c, v)]
  | [], _ => rfl
  | e :: r, h => by
    simp only [getKV] at h
    split at h
    · cases h
    · rename_i hn
      simp [setKV, hn, setKV_new c v r h]

def entI : Value × Bool × List DV → Option ((Int × Int) × (Int × Int))
  | (.agg cs, true, [.v (.int .i64 a), .v (.int .i64 b)]) => match cs.toList with
    | [.int .i64 x, .int .i64 y] => some ((x, y), (a, b))
    | _ => none
  | _ => none
theorem entI_eq {e : Value × Bool × List DV} {a : (Int × Int) × (Int × Int)} (h : entI e = some a) : e = entA a := by
  unfold entI at h
  split at h
  · rename_i cs x y
    split at h
    · rename_i u v hl
      simp only [Option.some.injEq] at h; subst h
      have : cs = #[.int .i64 u, .int .i64 v] := by rw [← Array.toList_inj, hl]
      subst this; rfl
    · cases h
  · cases h
theorem entI_entA (a : (Int × Int) × (Int × Int)) : entI (entA a) = some a := rfl
theorem aggP_toV (c : Int × Int) : toV (aggP c) = some (vP c) := rfl
theorem look59 {C : Ctx} (hC : C.P = Try.prog) (c : Int × Int) (m : MapE) : lookupIn C 59 (m.map entA) (aggP c) false = some (aggP ((getKV c m).getD (0, 0))) := by
  unfold lookupIn
  rw [hC, und59, aggP_toV]
  simp only [check23, keyAt23 hC c (m.map (·.1)) _ (entA_keys m), zero62 hC]
  rcases getKV_find c m 0 with ⟨h1, h2⟩ | ⟨j, e, h1, h2, h3, h4, h5⟩
  · rw [h1, h2]; rfl
  · rw [h1, h3]
    simp only [Nat.zero_add, List.getElem?_map, h2, Option.map_some]
    rfl
theorem look59ok {C : Ctx} (hC : C.P = Try.prog) (c : Int × Int) (m : MapE) : lookupIn C 59 (m.map entA) (aggP c) true = some (.tup [aggP ((getKV c m).getD (0, 0)), vb (getKV c m).isSome]) := by
  unfold lookupIn
  rw [hC, und59, aggP_toV]
  simp only [check23, keyAt23 hC c (m.map (·.1)) _ (entA_keys m), zero62 hC]
  rcases getKV_find c m 0 with ⟨h1, h2⟩ | ⟨j, e, h1, h2, h3, h4, h5⟩
  · rw [h1, h2]; rfl
  · rw [h1, h3]
    simp only [Nat.zero_add, List.getElem?_map, h2, Option.map_some]
    rfl
theorem same23 (c : Int × Int) : Instr.sameBits 10000 (vP c) (vP c) = true := by
  unfold vP
  simp [Instr.sameBits]
theorem upd59 {C : Ctx} (hC : C.P = Try.prog) (c v : Int × Int) (m : MapE) : updEs C 59 (m.map entA) (aggP c) (aggP v) = some ((setKV c v m).map entA) := by
  unfold updEs
  rw [hC, und59, aggP_toV]
  have e3 : allSome cellD (cellsA (aggP v)) = some [di v.1, di v.2] := rfl
  simp only [e3, check23, keyAt23 hC c (m.map (·.1)) _ (entA_keys m)]
  rcases getKV_find c m 0 with ⟨h1, h2⟩ | ⟨j, e, h1, h2, h3, h4, h5⟩
  · rw [h2, setKV_new c v m h1]
    simp [entA, isAggA, aggP]
  · rw [h1, h5]
    simp only [Nat.zero_add, List.getElem?_map, h2, Option.map_some]
    have : (entA e).1 = vP c := by simp [entA, h4]
    rw [this, same23]
    simp [entA, isAggA, aggP, List.map_set]

/-- a map of calls to true -/
def hadA (c : Int × Int) : Value × Bool × List DV := (vP c, false, [db true])
theorem hadA_keys (m : List (Int × Int)) : (m.map hadA).map (·.1) = m.map vP := by simp [Function.comp_def, hadA]
theorem ixFind_isSome (c : Int × Int) : ∀ (l : List (Int × Int)) (i : Nat), (ixFind c i l).isSome = l.contains c
  | [], i => rfl
  | x :: r, i => by
    simp only [ixFind]
    by_cases h : c = x
    · subst h; simp
    · have e : (c == x) = false := by simpa using h
      simp [h, e, ixFind_isSome c r]
theorem look80 {C : Ctx} (hC : C.P = Try.prog) (c : Int × Int) (m : List (Int × Int)) : lookupIn C 80 (m.map hadA) (aggP c) false = some (vb (m.contains c)) := by
  unfold lookupIn
  rw [hC, und80, aggP_toV]
  simp only [check23, keyAt23 hC c m _ (hadA_keys m), zero4 hC]
  rw [← ixFind_isSome c m 0]
  cases e : ixFind c 0 m with
  | none => rfl
  | some j =>
    obtain ⟨_, h2, h3⟩ := ixFind_lt e
    simp only [List.getElem?_map]
    rw [show m[j]? = some c by simpa using h3]
    rfl
theorem upd80 {C : Ctx} (hC : C.P = Try.prog) (c : Int × Int) (m : List (Int × Int)) (hn : m.contains c = false) : updEs C 80 (m.map hadA) (aggP c) (vb true) = some ((m ++ [c]).map hadA) := by
  unfold updEs
  rw [hC, und80, aggP_toV]
  have e3 : allSome cellD (cellsA (vb true)) = some [db true] := rfl
  simp only [e3, check23, keyAt23 hC c m _ (hadA_keys m)]
  rw [← ixFind_isSome c m 0] at hn
  cases e : ixFind c 0 m with
  | none => simp [hadA, isAggA, vb]
  | some j => rw [e] at hn; cases hn

end Go.Ev

namespace Go.Ev
open Go Go.RowKit Go.Proofs

theorem met_yyL (full : Bool) (rows : List (List DV)) (n : Int) (i : Int) (es : List (Value × Bool × List DV)) (e : Evt) (y : Int × Int) (es' : List (Value × Bool × List DV)) (i34 : Int) (x : X) (s : St) (h1 : decide (i < n) = true) (h2 : 0 ≤ i ∧ rows[Int.toNat i]? = some (Evt.row e)) (h3 : e.re = true) (h4 : lookupIn C0 59 es (AV.agg [vi e.1, vi e.2]) false = some (AV.agg [vi y.1, vi y.2])) (h5 : updEs C0 59 es (AV.agg [vi e.1, vi e.2]) (AV.agg [vi y.1, vi i]) = some es') (h6 : wr64 (i + 1) = i34) (h7 : Ev C0 noO (Task.code 31 false (loopOf Try.prog 31 0) { σ := slots 36 [(3, AV.mp 253959 0), (8, AV.d (DV.sl 7 full rows)), (9, vi n), (10, vi i34)], h := { objs := [(253959, 1, [AO.map es' false])] } }) (Res.code x s)) :
    Ev C0 noO (Task.code 31 false (loopOf Try.prog 31 0) { σ := slots 36 [(3, AV.mp (site 31 7) 0), (8, AV.d (DV.sl 7 full rows)), (9, vi n), (10, vi i)], h := H.push { } (site 31 7) (AO.map es false) }) (.code (x) s) :=
  sym_ev 60 _ [(site 31 11, Dec.b true), (site 31 13, Dec.row (Evt.row e)), (site 31 21, Dec.b true), (site 31 26, Dec.look (aggP y)), (site 31 8000, Dec.upd es'), (site 31 34, Dec.int i34), (site 31 8002, Dec.drop [253957, 253958] [3, 8, 9, 10]), (site 31 8001, Dec.loop [3, 8, 9, 10] x s)] _ [] _ (by kernel_rfl) (AllP_cons h1 (AllP_cons h2 (AllP_cons h3 (AllP_cons h4 (AllP_cons h5 (AllP_cons h6 (AllP_cons (rfl : true = true) (AllP_cons (rfl : true = true) (AllP_cons (rfl : true = true) (AllP_cons h7 AllP_nil))))))))))
theorem met_ynL (full : Bool) (rows : List (List DV)) (n : Int) (i : Int) (es : List (Value × Bool × List DV)) (e : Evt) (es' : List (Value × Bool × List DV)) (i34 : Int) (x : X) (s : St) (h1 : decide (i < n) = true) (h2 : 0 ≤ i ∧ rows[Int.toNat i]? = some (Evt.row e)) (h3 : e.re = false) (h4 : updEs C0 59 es (AV.agg [vi e.1, vi e.2]) (AV.agg [vi i, vi (-1)]) = some es') (h5 : wr64 (i + 1) = i34) (h6 : Ev C0 noO (Task.code 31 false (loopOf Try.prog 31 0) { σ := slots 36 [(3, AV.mp 253959 0), (8, AV.d (DV.sl 7 full rows)), (9, vi n), (10, vi i34)], h := { objs := [(253959, 1, [AO.map es' false])] } }) (Res.code x s)) :
    Ev C0 noO (Task.code 31 false (loopOf Try.prog 31 0) { σ := slots 36 [(3, AV.mp (site 31 7) 0), (8, AV.d (DV.sl 7 full rows)), (9, vi n), (10, vi i)], h := H.push { } (site 31 7) (AO.map es false) }) (.code (x) s) :=
  sym_ev 60 _ [(site 31 11, Dec.b true), (site 31 13, Dec.row (Evt.row e)), (site 31 21, Dec.b false), (site 31 8000, Dec.upd es'), (site 31 34, Dec.int i34), (site 31 8002, Dec.drop [253957, 253958] [3, 8, 9, 10]), (site 31 8001, Dec.loop [3, 8, 9, 10] x s)] _ [] _ (by kernel_rfl) (AllP_cons h1 (AllP_cons h2 (AllP_cons h3 (AllP_cons h4 (AllP_cons h5 (AllP_cons (rfl : true = true) (AllP_cons (rfl : true = true) (AllP_cons (rfl : true = true) (AllP_cons h6 AllP_nil)))))))))
theorem met_n (full : Bool) (rows : List (List DV)) (n : Int) (i : Int) (es : List (Value × Bool × List DV)) (h1 : decide (i < n) = false) :
    Ev C0 noO (Task.code 31 false (loopOf Try.prog 31 0) { σ := slots 36 [(3, AV.mp (site 31 7) 0), (8, AV.d (DV.sl 7 full rows)), (9, vi n), (10, vi i)], h := H.push { } (site 31 7) (AO.map es false) }) (.code (X.exit 0) { σ := slots 36 [(3, AV.mp 253959 0)], h := { objs := [(253959, 1, [AO.map es false])] } }) :=
  symD_ev (n := 60) (sc := [(site 31 11, Dec.b false)]) (keep := [3]) (L := [253957, 253958]) (sc' := []) (by kernel_rfl) (AllP_cons h1 (AllP_cons (rfl : true = true) (AllP_cons (rfl : true = true) (AllP_cons (rfl : true = true) AllP_nil))))
theorem metA_n (sl : AV) (n : Int) (i : Int) (es : List (Value × Bool × List DV)) (h1 : decide (i < n) = false) :
    Ev C0 noO (Task.code 31 false (loopOf Try.prog 31 0) { σ := slots 36 [(3, AV.mp (site 31 7) 0), (8, sl), (9, vi n), (10, vi i)], h := H.push { } (site 31 7) (AO.map es false) }) (.code (X.exit 0) { σ := slots 36 [(3, AV.mp 253959 0)], h := { objs := [(253959, 1, [AO.map es false])] } }) :=
  symD_ev (n := 60) (sc := [(site 31 11, Dec.b false)]) (keep := [3]) (L := [253957, 253958]) (sc' := []) (by kernel_rfl) (AllP_cons h1 (AllP_cons (rfl : true = true) (AllP_cons (rfl : true = true) (AllP_cons (rfl : true = true) AllP_nil))))
theorem metc_ (full : Bool) (rows : List (List DV)) (i9 : Int) (es : List (Value × Bool × List DV)) (h1 : ↑(List.length rows) = i9) (h2 : Ev C0 noO (Task.code 31 false (loopOf Try.prog 31 0) { σ := slots 36 [(3, AV.mp 253959 0), (8, AV.d (DV.sl 7 full rows)), (9, vi i9), (10, vi 0)], h := { objs := [(253959, 1, [AO.map [] false])] } }) (Res.code (X.exit 0) { σ := slots 36 [(3, AV.mp (site 31 7) 0)], h := H.push { } (site 31 7) (AO.map es false) })) :
    Ev C0 noO (Task.call 31 [AV.d (DV.sl 7 full rows)] { }) (.val (AV.mp 253959 0) { objs := [(253959, 1, [AO.map es false])] }) :=
  sym_ev 60 _ [(site 31 9, Dec.int i9), (site 31 8001, Dec.loop [3, 8, 9, 10] (X.exit 0) { σ := slots 36 [(3, AV.mp (site 31 7) 0)], h := H.push { } (site 31 7) (AO.map es false) })] _ [] _ (by kernel_rfl) (AllP_cons h1 (AllP_cons h2 AllP_nil))
theorem metcn_ (es : List (Value × Bool × List DV)) (h1 : Ev C0 noO (Task.code 31 false (loopOf Try.prog 31 0) { σ := slots 36 [(3, AV.mp 253959 0), (8, AV.d (DV.v (Value.slice none 0 0))), (9, vi 0), (10, vi 0)], h := { objs := [(253959, 1, [AO.map [] false])] } }) (Res.code (X.exit 0) { σ := slots 36 [(3, AV.mp (site 31 7) 0)], h := H.push { } (site 31 7) (AO.map es false) })) :
    Ev C0 noO (Task.call 31 [AV.d (DV.v (Value.slice none 0 0))] { }) (.val (AV.mp 253959 0) { objs := [(253959, 1, [AO.map es false])] }) :=
  sym_ev 60 _ [(site 31 8001, Dec.loop [3, 8, 9, 10] (X.exit 0) { σ := slots 36 [(3, AV.mp (site 31 7) 0)], h := H.push { } (site 31 7) (AO.map es false) })] _ [] _ (by kernel_rfl) (AllP_cons h1 AllP_nil)

end Go.Ev

namespace Go.Ev
open Go Go.RowKit Go.Proofs

/-- the spans behind events, the first one's number being i -/
def metL : Nat → List Evt → MapE → MapE
  | _, [], m => m
  | i, e :: l, m => metL (i + 1) l (if e.re then setKV (e.th, e.ca) (((getKV (e.th, e.ca) m).getD (0, 0)).1, i) m else setKV (e.th, e.ca) (i, -1) m)
def metHd (sl : AV) (n i : Int) (m : MapE) : St := { σ := slots 36 [(3, .mp (site 31 7) 0), (8, sl), (9, vi n), (10, vi i)], h := ({} : H).push (site 31 7) (.map (m.map entA) false) }
def metOut (m : MapE) : St := { σ := slots 36 [(3, .mp (site 31 7) 0)], h := ({} : H).push (site 31 7) (.map (m.map entA) false) }

theorem met_loop (full : Bool) (all : List Evt) (hb : all.length < 2 ^ 40) : ∀ (rest pre : List Evt) (m : MapE), pre ++ rest = all →
    Ev C0 noO (.code 31 false (loopOf Try.prog 31 0) (metHd (.d (.sl 7 full (evRows all))) (all.length : Nat) (pre.length : Nat) m)) (.code (.exit 0) (metOut (metL pre.length rest m)))
  | [], pre, m, h => met_n _ _ _ _ _ (dge (by subst h; simp))
  | e :: rest, pre, m, h => by
    have hlt := pre_lt h
    have ih := fun m => met_loop full all hb rest (pre ++ [e]) m (pre_snoc h)
    simp only [len_snoc] at ih
    unfold metL
    cases hr : e.re with
    | true =>
      exact met_yyL _ _ _ _ _ e _ _ ((pre.length + 1 : Nat) : Int) _ _ (dlt hlt) (row_at h) hr (look59 rfl (e.th, e.ca) m) (upd59 rfl (e.th, e.ca) (((getKV (e.th, e.ca) m).getD (0, 0)).1, (pre.length : Int)) m) (wrap_succ (by omega)) (ih _)
    | false =>
      exact met_ynL _ _ _ _ _ e _ ((pre.length + 1 : Nat) : Int) _ _ (dlt hlt) (row_at h) hr (upd59 rfl (e.th, e.ca) ((pre.length : Int), -1) m) (wrap_succ (by omega)) (ih _)

def metSpec : List PV → Option (List PV)
  | [p] => match evtsOf p with
    | some l => if l.length < 2 ^ 40 then some [.one (.mp ((metL 0 l []).map entA))] else none
    | none => none
  | _ => none
theorem met_sat : Sat C0 31 metSpec := by
  refine sat_of_ev (O := noO) hP0 (fun _ _ h => h.elim) hm0 fun ps rs hs => ?_
  unfold metSpec at hs
  split at hs
  · split at hs
    · rename_i p l hl
      split at hs
      · rename_i hb
        simp only [Option.some.injEq] at hs
        subst hs
        rcases evtsOf_cases hl with ⟨rfl, rfl⟩ | ⟨full, rfl⟩
        · exact ⟨_, _, _, metcn_ [] (metA_n _ 0 0 _ (by decide)), rfl⟩
        · exact ⟨_, _, _, metc_ full _ (l.length : Nat) ((metL 0 l []).map entA) (by simp [evRows]) (met_loop full l hb l [] [] rfl), rfl⟩
      · cases hs
    · cases hs
  · cases hs

end Go.Ev

namespace Go.Ev
open Go Go.RowKit Go.Proofs

theorem fa_yt1t1 (full : Bool) (rows : List (List DV)) (n : Int) (i : Int) (es : List (Value × Bool × List DV)) (had : List (Value × Bool × List DV)) (c : Int × Int) (y : Int × Int) (h1 : decide (i < n) = true) (h2 : 0 ≤ i ∧ rows[Int.toNat i]? = some (rowP c)) (h3 : lookupIn C0 59 es (AV.agg [vi c.1, vi c.2]) true = some (AV.tup [AV.agg [vi y.1, vi y.2], vb true])) (h4 : lookupIn C0 80 had (AV.agg [vi c.1, vi c.2]) false = some (vb true)) :
    Ev C0 noO (Task.code 34 false (loopOf Try.prog 34 0) { σ := slots 80 [(0, AV.d (DV.mp es)), (1, AV.d (DV.sl 2 full rows)), (5, AV.mp (site 34 16) 0), (17, AV.d (DV.sl 2 full rows)), (18, vi n), (19, vi i)], h := H.push { } (site 34 16) (AO.map had false) }) (.code (X.ret) { σ := slots 80 [(4, vi 1)], h := { objs := [(278544, 1, [AO.map had false])] } }) :=
  symD_ev (n := 60) (sc := [(site 34 20, Dec.b true), (site 34 21, Dec.row (rowP c)), (site 34 26, Dec.look (AV.tup [aggP y, vb true])), (site 34 34, Dec.look (vb true))]) (keep := [4]) (L := [278535, 278536]) (sc' := []) (by kernel_rfl) (AllP_cons h1 (AllP_cons h2 (AllP_cons h3 (AllP_cons h4 (AllP_cons (rfl : true = true) (AllP_cons (rfl : true = true) (AllP_cons (rfl : true = true) AllP_nil)))))))
theorem fa_yt1t2L (full : Bool) (rows : List (List DV)) (n : Int) (i : Int) (es : List (Value × Bool × List DV)) (had : List (Value × Bool × List DV)) (c : Int × Int) (y : Int × Int) (es' : List (Value × Bool × List DV)) (i38 : Int) (x : X) (s : St) (h1 : decide (i < n) = true) (h2 : 0 ≤ i ∧ rows[Int.toNat i]? = some (rowP c)) (h3 : lookupIn C0 59 es (AV.agg [vi c.1, vi c.2]) true = some (AV.tup [AV.agg [vi y.1, vi y.2], vb true])) (h4 : lookupIn C0 80 had (AV.agg [vi c.1, vi c.2]) false = some (vb false)) (h5 : updEs C0 80 had (AV.agg [vi c.1, vi c.2]) (vb true) = some es') (h6 : wr64 (i + 1) = i38) (h7 : Ev C0 noO (Task.code 34 false (loopOf Try.prog 34 0) { σ := slots 80 [(0, AV.d (DV.mp es)), (1, AV.d (DV.sl 2 full rows)), (5, AV.mp 278544 0), (17, AV.d (DV.sl 2 full rows)), (18, vi n), (19, vi i38)], h := { objs := [(278544, 1, [AO.map es' false])] } }) (Res.code x s)) :
    Ev C0 noO (Task.code 34 false (loopOf Try.prog 34 0) { σ := slots 80 [(0, AV.d (DV.mp es)), (1, AV.d (DV.sl 2 full rows)), (5, AV.mp (site 34 16) 0), (17, AV.d (DV.sl 2 full rows)), (18, vi n), (19, vi i)], h := H.push { } (site 34 16) (AO.map had false) }) (.code (x) s) :=
  sym_ev 60 _ [(site 34 20, Dec.b true), (site 34 21, Dec.row (rowP c)), (site 34 26, Dec.look (AV.tup [aggP y, vb true])), (site 34 34, Dec.look (vb false)), (site 34 8000, Dec.upd es'), (site 34 38, Dec.int i38), (site 34 8002, Dec.drop [278535, 278536] [0, 1, 5, 17, 18, 19]), (site 34 8001, Dec.loop [0, 1, 5, 17, 18, 19] x s)] _ [] _ (by kernel_rfl) (AllP_cons h1 (AllP_cons h2 (AllP_cons h3 (AllP_cons h4 (AllP_cons h5 (AllP_cons h6 (AllP_cons (rfl : true = true) (AllP_cons (rfl : true = true) (AllP_cons (rfl : true = true) (AllP_cons h7 AllP_nil))))))))))
theorem fa_yt2 (full : Bool) (rows : List (List DV)) (n : Int) (i : Int) (es : List (Value × Bool × List DV)) (had : List (Value × Bool × List DV)) (c : Int × Int) (y : Int × Int) (h1 : decide (i < n) = true) (h2 : 0 ≤ i ∧ rows[Int.toNat i]? = some (rowP c)) (h3 : lookupIn C0 59 es (AV.agg [vi c.1, vi c.2]) true = some (AV.tup [AV.agg [vi y.1, vi y.2], vb false])) :
    Ev C0 noO (Task.code 34 false (loopOf Try.prog 34 0) { σ := slots 80 [(0, AV.d (DV.mp es)), (1, AV.d (DV.sl 2 full rows)), (5, AV.mp (site 34 16) 0), (17, AV.d (DV.sl 2 full rows)), (18, vi n), (19, vi i)], h := H.push { } (site 34 16) (AO.map had false) }) (.code (X.ret) { σ := slots 80 [(4, vi 1)], h := { objs := [(278544, 1, [AO.map had false])] } }) :=
  symD_ev (n := 60) (sc := [(site 34 20, Dec.b true), (site 34 21, Dec.row (rowP c)), (site 34 26, Dec.look (AV.tup [aggP y, vb false]))]) (keep := [4]) (L := [278535, 278536]) (sc' := []) (by kernel_rfl) (AllP_cons h1 (AllP_cons h2 (AllP_cons h3 (AllP_cons (rfl : true = true) (AllP_cons (rfl : true = true) (AllP_cons (rfl : true = true) AllP_nil))))))
theorem fa_n (full : Bool) (rows : List (List DV)) (n : Int) (i : Int) (es : List (Value × Bool × List DV)) (had : List (Value × Bool × List DV)) (h1 : decide (i < n) = false) :
    Ev C0 noO (Task.code 34 false (loopOf Try.prog 34 0) { σ := slots 80 [(0, AV.d (DV.mp es)), (1, AV.d (DV.sl 2 full rows)), (5, AV.mp (site 34 16) 0), (17, AV.d (DV.sl 2 full rows)), (18, vi n), (19, vi i)], h := H.push { } (site 34 16) (AO.map had false) }) (.code (X.exit 0) { σ := slots 80 [(0, AV.d (DV.mp es)), (1, AV.d (DV.sl 2 full rows)), (5, AV.mp 278544 0)], h := { objs := [(278544, 1, [AO.map had false])] } }) :=
  symD_ev (n := 60) (sc := [(site 34 20, Dec.b false)]) (keep := [0, 1, 5]) (L := [278535, 278536]) (sc' := []) (by kernel_rfl) (AllP_cons h1 (AllP_cons (rfl : true = true) (AllP_cons (rfl : true = true) (AllP_cons (rfl : true = true) AllP_nil))))
theorem faA_n (y : DV) (n : Int) (i : Int) (es : List (Value × Bool × List DV)) (had : List (Value × Bool × List DV)) (h1 : decide (i < n) = false) :
    Ev C0 noO (Task.code 34 false (loopOf Try.prog 34 0) { σ := slots 80 [(0, AV.d (DV.mp es)), (1, AV.d y), (5, AV.mp (site 34 16) 0), (17, AV.d y), (18, vi n), (19, vi i)], h := H.push { } (site 34 16) (AO.map had false) }) (.code (X.exit 0) { σ := slots 80 [(0, AV.d (DV.mp es)), (1, AV.d y), (5, AV.mp 278544 0)], h := { objs := [(278544, 1, [AO.map had false])] } }) :=
  symD_ev (n := 60) (sc := [(site 34 20, Dec.b false)]) (keep := [0, 1, 5]) (L := [278535, 278536]) (sc' := []) (by kernel_rfl) (AllP_cons h1 (AllP_cons (rfl : true = true) (AllP_cons (rfl : true = true) (AllP_cons (rfl : true = true) AllP_nil))))
theorem fb_yt1 (y : DV) (t : AV) (es : List (Value × Bool × List DV)) (had : List (Value × Bool × List DV)) (i : Nat) (seen : List Nat) (k : Int × Int) (v : Int × Int) (h1 : entryA es i = some (AV.tup [AV.agg [vi k.1, vi k.2], AV.agg [vi v.1, vi v.2]])) (h2 : decide (v.snd ≥ 0) = true) (h3 : lookupIn C0 80 had (AV.agg [vi k.1, vi k.2]) false = some (vb true)) :
    Ev C0 noO (Task.code 34 false (loopTail Try.prog 34 1) { σ := slots 80 [(0, AV.d (DV.mp es)), (1, AV.d y), (5, AV.mp (site 34 16) 0), (40, AV.ptr (site 34 40) 0 0), (41, t), (42, vb true)], h := H.push (H.push { } (site 34 16) (AO.map had false)) (site 34 40) (AO.iter es (i :: seen)) }) (.code (X.normal) { σ := slots 80 [(0, AV.d (DV.mp es)), (1, AV.d y), (5, AV.mp 278544 0), (40, AV.ptr 278568 0 0)], h := { objs := [(278544, 1, [AO.map had false]), (278568, 1, [AO.iter es (i :: seen)])] } }) :=
  symD_ev (n := 60) (sc := [(site 34 43, Dec.ent (AV.tup [aggP k, aggP v])), (site 34 48, Dec.b true), (site 34 52, Dec.look (vb true))]) (keep := [0, 1, 5, 40]) (L := [278538, 278539]) (sc' := []) (by kernel_rfl) (AllP_cons h1 (AllP_cons h2 (AllP_cons h3 (AllP_cons (rfl : true = true) (AllP_cons (rfl : true = true) (AllP_cons (rfl : true = true) AllP_nil))))))
theorem fb_yt2 (y : DV) (t : AV) (es : List (Value × Bool × List DV)) (had : List (Value × Bool × List DV)) (i : Nat) (seen : List Nat) (k : Int × Int) (v : Int × Int) (h1 : entryA es i = some (AV.tup [AV.agg [vi k.1, vi k.2], AV.agg [vi v.1, vi v.2]])) (h2 : decide (v.snd ≥ 0) = true) (h3 : lookupIn C0 80 had (AV.agg [vi k.1, vi k.2]) false = some (vb false)) :
    Ev C0 noO (Task.code 34 false (loopTail Try.prog 34 1) { σ := slots 80 [(0, AV.d (DV.mp es)), (1, AV.d y), (5, AV.mp (site 34 16) 0), (40, AV.ptr (site 34 40) 0 0), (41, t), (42, vb true)], h := H.push (H.push { } (site 34 16) (AO.map had false)) (site 34 40) (AO.iter es (i :: seen)) }) (.code (X.ret) { σ := slots 80 [(4, vi 8)], h := { objs := [(278544, 1, [AO.map had false]), (278568, 1, [AO.iter es (i :: seen)])] } }) :=
  symD_ev (n := 60) (sc := [(site 34 43, Dec.ent (AV.tup [aggP k, aggP v])), (site 34 48, Dec.b true), (site 34 52, Dec.look (vb false))]) (keep := [4]) (L := [278538, 278539]) (sc' := []) (by kernel_rfl) (AllP_cons h1 (AllP_cons h2 (AllP_cons h3 (AllP_cons (rfl : true = true) (AllP_cons (rfl : true = true) (AllP_cons (rfl : true = true) AllP_nil))))))
theorem fb_n (y : DV) (t : AV) (es : List (Value × Bool × List DV)) (had : List (Value × Bool × List DV)) (i : Nat) (seen : List Nat) (k : Int × Int) (v : Int × Int) (h1 : entryA es i = some (AV.tup [AV.agg [vi k.1, vi k.2], AV.agg [vi v.1, vi v.2]])) (h2 : decide (v.snd ≥ 0) = false) :
    Ev C0 noO (Task.code 34 false (loopTail Try.prog 34 1) { σ := slots 80 [(0, AV.d (DV.mp es)), (1, AV.d y), (5, AV.mp (site 34 16) 0), (40, AV.ptr (site 34 40) 0 0), (41, t), (42, vb true)], h := H.push (H.push { } (site 34 16) (AO.map had false)) (site 34 40) (AO.iter es (i :: seen)) }) (.code (X.normal) { σ := slots 80 [(0, AV.d (DV.mp es)), (1, AV.d y), (5, AV.mp 278544 0), (40, AV.ptr 278568 0 0)], h := { objs := [(278544, 1, [AO.map had false]), (278568, 1, [AO.iter es (i :: seen)])] } }) :=
  symD_ev (n := 60) (sc := [(site 34 43, Dec.ent (AV.tup [aggP k, aggP v])), (site 34 48, Dec.b false)]) (keep := [0, 1, 5, 40]) (L := [278538, 278539]) (sc' := []) (by kernel_rfl) (AllP_cons h1 (AllP_cons h2 (AllP_cons (rfl : true = true) (AllP_cons (rfl : true = true) (AllP_cons (rfl : true = true) AllP_nil)))))
theorem fbN_ (y : DV) (t : AV) (es : List (Value × Bool × List DV)) (had : List (Value × Bool × List DV)) (seen : List Nat) :
    Ev C0 noO (Task.code 34 false (loopTail Try.prog 34 1) { σ := slots 80 [(0, AV.d (DV.mp es)), (1, AV.d y), (5, AV.mp (site 34 16) 0), (40, AV.ptr (site 34 40) 0 0), (41, t), (42, vb false)], h := H.push (H.push { } (site 34 16) (AO.map had false)) (site 34 40) (AO.iter es seen) }) (.code (X.exit 2) { σ := slots 80 [(0, AV.d (DV.mp es)), (1, AV.d y)], h := { objs := [(278544, 1, [AO.map had false]), (278568, 1, [AO.iter es seen])] } }) :=
  symD_ev (n := 60) (sc := []) (keep := [0, 1]) (L := [278538, 278539]) (sc' := []) (by kernel_rfl) (AllP_cons (rfl : true = true) (AllP_cons (rfl : true = true) (AllP_cons (rfl : true = true) AllP_nil)))
theorem fc_yyy (full : Bool) (rows : List (List DV)) (n : Int) (i : Int) (last : Int) (es : List (Value × Bool × List DV)) (had : List (Value × Bool × List DV)) (c : Int × Int) (v : Int × Int) (h1 : decide (i < n) = true) (h2 : 0 ≤ i ∧ rows[Int.toNat i]? = some (rowP c)) (h3 : lookupIn C0 59 es (AV.agg [vi c.1, vi c.2]) false = some (AV.agg [vi v.1, vi v.2])) (h4 : decide (v.snd ≥ 0) = true) (h5 : decide (v.snd < last) = true) :
    Ev C0 noO (Task.code 34 false (loopOf Try.prog 34 2) { σ := slots 80 [(0, AV.d (DV.mp es)), (12, vi last), (55, AV.d (DV.sl 2 full rows)), (56, vi n), (57, vi i)], h := H.push (H.push { } (site 34 16) (AO.map had false)) (site 34 40) AO.dead }) (.code (X.ret) { σ := slots 80 [(4, vi 9)], h := { objs := [(278544, 1, [AO.map had false]), (278568, 1, [AO.dead])] } }) :=
  symD_ev (n := 60) (sc := [(site 34 58, Dec.b true), (site 34 59, Dec.row (rowP c)), (site 34 63, Dec.look (aggP v)), (site 34 66, Dec.b true), (site 34 71, Dec.b true)]) (keep := [4]) (L := [278542, 278543]) (sc' := []) (by kernel_rfl) (AllP_cons h1 (AllP_cons h2 (AllP_cons h3 (AllP_cons h4 (AllP_cons h5 (AllP_cons (rfl : true = true) (AllP_cons (rfl : true = true) (AllP_cons (rfl : true = true) AllP_nil))))))))
theorem fc_yynL (full : Bool) (rows : List (List DV)) (n : Int) (i : Int) (last : Int) (es : List (Value × Bool × List DV)) (had : List (Value × Bool × List DV)) (c : Int × Int) (v : Int × Int) (u : Int × Int) (i78 : Int) (i79 : Int) (x : X) (s : St) (h1 : decide (i < n) = true) (h2 : 0 ≤ i ∧ rows[Int.toNat i]? = some (rowP c)) (h3 : lookupIn C0 59 es (AV.agg [vi c.1, vi c.2]) false = some (AV.agg [vi v.1, vi v.2])) (h4 : decide (v.snd ≥ 0) = true) (h5 : decide (v.snd < last) = false) (h6 : lookupIn C0 59 es (AV.agg [vi c.1, vi c.2]) false = some (AV.agg [vi u.1, vi u.2])) (h7 : (if u.fst > last then u.fst else last) = i78) (h8 : wr64 (i + 1) = i79) (h9 : Ev C0 noO (Task.code 34 false (loopOf Try.prog 34 2) { σ := slots 80 [(0, AV.d (DV.mp es)), (12, vi i78), (55, AV.d (DV.sl 2 full rows)), (56, vi n), (57, vi i79)], h := { objs := [(278544, 1, [AO.map had false]), (278568, 1, [AO.dead])] } }) (Res.code x s)) :
    Ev C0 noO (Task.code 34 false (loopOf Try.prog 34 2) { σ := slots 80 [(0, AV.d (DV.mp es)), (12, vi last), (55, AV.d (DV.sl 2 full rows)), (56, vi n), (57, vi i)], h := H.push (H.push { } (site 34 16) (AO.map had false)) (site 34 40) AO.dead }) (.code (x) s) :=
  sym_ev 60 _ [(site 34 58, Dec.b true), (site 34 59, Dec.row (rowP c)), (site 34 63, Dec.look (aggP v)), (site 34 66, Dec.b true), (site 34 71, Dec.b false), (site 34 76, Dec.look (aggP u)), (site 34 78, Dec.int i78), (site 34 79, Dec.int i79), (site 34 8002, Dec.drop [278542, 278543] [0, 12, 55, 56, 57]), (site 34 8001, Dec.loop [0, 12, 55, 56, 57] x s)] _ [] _ (by kernel_rfl) (AllP_cons h1 (AllP_cons h2 (AllP_cons h3 (AllP_cons h4 (AllP_cons h5 (AllP_cons h6 (AllP_cons h7 (AllP_cons h8 (AllP_cons (rfl : true = true) (AllP_cons (rfl : true = true) (AllP_cons (rfl : true = true) (AllP_cons h9 AllP_nil))))))))))))
theorem fc_ynL (full : Bool) (rows : List (List DV)) (n : Int) (i : Int) (last : Int) (es : List (Value × Bool × List DV)) (had : List (Value × Bool × List DV)) (c : Int × Int) (v : Int × Int) (u : Int × Int) (i78 : Int) (i79 : Int) (x : X) (s : St) (h1 : decide (i < n) = true) (h2 : 0 ≤ i ∧ rows[Int.toNat i]? = some (rowP c)) (h3 : lookupIn C0 59 es (AV.agg [vi c.1, vi c.2]) false = some (AV.agg [vi v.1, vi v.2])) (h4 : decide (v.snd ≥ 0) = false) (h5 : lookupIn C0 59 es (AV.agg [vi c.1, vi c.2]) false = some (AV.agg [vi u.1, vi u.2])) (h6 : (if u.fst > last then u.fst else last) = i78) (h7 : wr64 (i + 1) = i79) (h8 : Ev C0 noO (Task.code 34 false (loopOf Try.prog 34 2) { σ := slots 80 [(0, AV.d (DV.mp es)), (12, vi i78), (55, AV.d (DV.sl 2 full rows)), (56, vi n), (57, vi i79)], h := { objs := [(278544, 1, [AO.map had false]), (278568, 1, [AO.dead])] } }) (Res.code x s)) :
    Ev C0 noO (Task.code 34 false (loopOf Try.prog 34 2) { σ := slots 80 [(0, AV.d (DV.mp es)), (12, vi last), (55, AV.d (DV.sl 2 full rows)), (56, vi n), (57, vi i)], h := H.push (H.push { } (site 34 16) (AO.map had false)) (site 34 40) AO.dead }) (.code (x) s) :=
  sym_ev 60 _ [(site 34 58, Dec.b true), (site 34 59, Dec.row (rowP c)), (site 34 63, Dec.look (aggP v)), (site 34 66, Dec.b false), (site 34 76, Dec.look (aggP u)), (site 34 78, Dec.int i78), (site 34 79, Dec.int i79), (site 34 8002, Dec.drop [278542, 278543] [0, 12, 55, 56, 57]), (site 34 8001, Dec.loop [0, 12, 55, 56, 57] x s)] _ [] _ (by kernel_rfl) (AllP_cons h1 (AllP_cons h2 (AllP_cons h3 (AllP_cons h4 (AllP_cons h5 (AllP_cons h6 (AllP_cons h7 (AllP_cons (rfl : true = true) (AllP_cons (rfl : true = true) (AllP_cons (rfl : true = true) (AllP_cons h8 AllP_nil)))))))))))
theorem fc_n (full : Bool) (rows : List (List DV)) (n : Int) (i : Int) (last : Int) (es : List (Value × Bool × List DV)) (had : List (Value × Bool × List DV)) (h1 : decide (i < n) = false) :
    Ev C0 noO (Task.code 34 false (loopOf Try.prog 34 2) { σ := slots 80 [(0, AV.d (DV.mp es)), (12, vi last), (55, AV.d (DV.sl 2 full rows)), (56, vi n), (57, vi i)], h := H.push (H.push { } (site 34 16) (AO.map had false)) (site 34 40) AO.dead }) (.code (X.exit 4) { σ := slots 80 [], h := { objs := [(278544, 1, [AO.map had false]), (278568, 1, [AO.dead])] } }) :=
  symD_ev (n := 60) (sc := [(site 34 58, Dec.b false)]) (keep := []) (L := [278542, 278543]) (sc' := []) (by kernel_rfl) (AllP_cons h1 (AllP_cons (rfl : true = true) (AllP_cons (rfl : true = true) (AllP_cons (rfl : true = true) AllP_nil))))
theorem fcA_n (y : DV) (n : Int) (i : Int) (last : Int) (es : List (Value × Bool × List DV)) (had : List (Value × Bool × List DV)) (h1 : decide (i < n) = false) :
    Ev C0 noO (Task.code 34 false (loopOf Try.prog 34 2) { σ := slots 80 [(0, AV.d (DV.mp es)), (12, vi last), (55, AV.d y), (56, vi n), (57, vi i)], h := H.push (H.push { } (site 34 16) (AO.map had false)) (site 34 40) AO.dead }) (.code (X.exit 4) { σ := slots 80 [], h := { objs := [(278544, 1, [AO.map had false]), (278568, 1, [AO.dead])] } }) :=
  symD_ev (n := 60) (sc := [(site 34 58, Dec.b false)]) (keep := []) (L := [278542, 278543]) (sc' := []) (by kernel_rfl) (AllP_cons h1 (AllP_cons (rfl : true = true) (AllP_cons (rfl : true = true) (AllP_cons (rfl : true = true) AllP_nil))))
theorem fits_l1 (full : Bool) (rows : List (List DV)) (es : List (Value × Bool × List DV)) (had : List (Value × Bool × List DV)) (i18 : Int) (h1 : ↑(List.length rows) = i18) (h2 : Ev C0 noO (Task.code 34 false (loopOf Try.prog 34 0) { σ := slots 80 [(0, AV.d (DV.mp es)), (1, AV.d (DV.sl 2 full rows)), (5, AV.mp 278544 0), (17, AV.d (DV.sl 2 full rows)), (18, vi i18), (19, vi 0)], h := { objs := [(278544, 1, [AO.map [] false])] } }) (Res.code X.ret { σ := slots 80 [(4, vi 1)], h := H.push { } (site 34 16) (AO.map had false) })) :
    Ev C0 noO (Task.call 34 [AV.d (DV.mp es), AV.d (DV.sl 2 full rows)] { }) (.val (vi 1) { objs := [(278544, 1, [AO.map had false])] }) :=
  sym_ev 60 _ [(site 34 18, Dec.int i18), (site 34 8001, Dec.loop [0, 1, 5, 17, 18, 19] X.ret { σ := slots 80 [(4, vi 1)], h := H.push { } (site 34 16) (AO.map had false) })] _ [] _ (by kernel_rfl) (AllP_cons h1 (AllP_cons h2 AllP_nil))
theorem fits_l2l1 (full : Bool) (rows : List (List DV)) (es : List (Value × Bool × List DV)) (had : List (Value × Bool × List DV)) (i18 : Int) (h1 : ↑(List.length rows) = i18) (h2 : Ev C0 noO (Task.code 34 false (loopOf Try.prog 34 0) { σ := slots 80 [(0, AV.d (DV.mp es)), (1, AV.d (DV.sl 2 full rows)), (5, AV.mp 278544 0), (17, AV.d (DV.sl 2 full rows)), (18, vi i18), (19, vi 0)], h := { objs := [(278544, 1, [AO.map [] false])] } }) (Res.code (X.exit 0) { σ := slots 80 [(0, AV.d (DV.mp es)), (1, AV.d (DV.sl 2 full rows)), (5, AV.mp (site 34 16) 0)], h := H.push { } (site 34 16) (AO.map had false) })) (h3 : Ev C0 noO (Task.code 34 false (loopOf Try.prog 34 1) { σ := slots 80 [(0, AV.d (DV.mp es)), (1, AV.d (DV.sl 2 full rows)), (5, AV.mp 278544 0), (40, AV.ptr 278568 0 0)], h := { objs := [(278544, 1, [AO.map had false]), (278568, 1, [AO.iter es []])] } }) (Res.code X.ret { σ := slots 80 [(4, vi 8)], h := H.push (H.push { } (site 34 16) (AO.map had false)) (site 34 40) AO.dead })) :
    Ev C0 noO (Task.call 34 [AV.d (DV.mp es), AV.d (DV.sl 2 full rows)] { }) (.val (vi 8) { objs := [(278544, 1, [AO.map had false]), (278568, 1, [AO.dead])] }) :=
  sym_ev 60 _ [(site 34 18, Dec.int i18), (site 34 8001, Dec.loop [0, 1, 5, 17, 18, 19] (X.exit 0) { σ := slots 80 [(0, AV.d (DV.mp es)), (1, AV.d (DV.sl 2 full rows)), (5, AV.mp (site 34 16) 0)], h := H.push { } (site 34 16) (AO.map had false) }), (site 34 8001, Dec.loop [0, 1, 5, 40] X.ret { σ := slots 80 [(4, vi 8)], h := H.push (H.push { } (site 34 16) (AO.map had false)) (site 34 40) AO.dead })] _ [] _ (by kernel_rfl) (AllP_cons h1 (AllP_cons h2 (AllP_cons h3 AllP_nil)))
theorem fits_l2l2l1 (full : Bool) (rows : List (List DV)) (es : List (Value × Bool × List DV)) (had : List (Value × Bool × List DV)) (i18 : Int) (i56 : Int) (h1 : ↑(List.length rows) = i18) (h2 : Ev C0 noO (Task.code 34 false (loopOf Try.prog 34 0) { σ := slots 80 [(0, AV.d (DV.mp es)), (1, AV.d (DV.sl 2 full rows)), (5, AV.mp 278544 0), (17, AV.d (DV.sl 2 full rows)), (18, vi i18), (19, vi 0)], h := { objs := [(278544, 1, [AO.map [] false])] } }) (Res.code (X.exit 0) { σ := slots 80 [(0, AV.d (DV.mp es)), (1, AV.d (DV.sl 2 full rows)), (5, AV.mp (site 34 16) 0)], h := H.push { } (site 34 16) (AO.map had false) })) (h3 : Ev C0 noO (Task.code 34 false (loopOf Try.prog 34 1) { σ := slots 80 [(0, AV.d (DV.mp es)), (1, AV.d (DV.sl 2 full rows)), (5, AV.mp 278544 0), (40, AV.ptr 278568 0 0)], h := { objs := [(278544, 1, [AO.map had false]), (278568, 1, [AO.iter es []])] } }) (Res.code (X.exit 2) { σ := slots 80 [(0, AV.d (DV.mp es)), (1, AV.d (DV.sl 2 full rows))], h := H.push (H.push { } (site 34 16) (AO.map had false)) (site 34 40) AO.dead })) (h4 : ↑(List.length rows) = i56) (h5 : Ev C0 noO (Task.code 34 false (loopOf Try.prog 34 2) { σ := slots 80 [(0, AV.d (DV.mp es)), (12, vi (-1)), (55, AV.d (DV.sl 2 full rows)), (56, vi i56), (57, vi 0)], h := { objs := [(278544, 1, [AO.map had false]), (278568, 1, [AO.dead])] } }) (Res.code X.ret { σ := slots 80 [(4, vi 9)], h := H.push (H.push { } (site 34 16) (AO.map had false)) (site 34 40) AO.dead })) :
    Ev C0 noO (Task.call 34 [AV.d (DV.mp es), AV.d (DV.sl 2 full rows)] { }) (.val (vi 9) { objs := [(278544, 1, [AO.map had false]), (278568, 1, [AO.dead])] }) :=
  sym_ev 60 _ [(site 34 18, Dec.int i18), (site 34 8001, Dec.loop [0, 1, 5, 17, 18, 19] (X.exit 0) { σ := slots 80 [(0, AV.d (DV.mp es)), (1, AV.d (DV.sl 2 full rows)), (5, AV.mp (site 34 16) 0)], h := H.push { } (site 34 16) (AO.map had false) }), (site 34 8001, Dec.loop [0, 1, 5, 40] (X.exit 2) { σ := slots 80 [(0, AV.d (DV.mp es)), (1, AV.d (DV.sl 2 full rows))], h := H.push (H.push { } (site 34 16) (AO.map had false)) (site 34 40) AO.dead }), (site 34 56, Dec.int i56), (site 34 8001, Dec.loop [0, 12, 55, 56, 57] X.ret { σ := slots 80 [(4, vi 9)], h := H.push (H.push { } (site 34 16) (AO.map had false)) (site 34 40) AO.dead })] _ [] _ (by kernel_rfl) (AllP_cons h1 (AllP_cons h2 (AllP_cons h3 (AllP_cons h4 (AllP_cons h5 AllP_nil)))))
theorem fits_l2l2l2 (full : Bool) (rows : List (List DV)) (es : List (Value × Bool × List DV)) (had : List (Value × Bool × List DV)) (i18 : Int) (i56 : Int) (h1 : ↑(List.length rows) = i18) (h2 : Ev C0 noO (Task.code 34 false (loopOf Try.prog 34 0) { σ := slots 80 [(0, AV.d (DV.mp es)), (1, AV.d (DV.sl 2 full rows)), (5, AV.mp 278544 0), (17, AV.d (DV.sl 2 full rows)), (18, vi i18), (19, vi 0)], h := { objs := [(278544, 1, [AO.map [] false])] } }) (Res.code (X.exit 0) { σ := slots 80 [(0, AV.d (DV.mp es)), (1, AV.d (DV.sl 2 full rows)), (5, AV.mp (site 34 16) 0)], h := H.push { } (site 34 16) (AO.map had false) })) (h3 : Ev C0 noO (Task.code 34 false (loopOf Try.prog 34 1) { σ := slots 80 [(0, AV.d (DV.mp es)), (1, AV.d (DV.sl 2 full rows)), (5, AV.mp 278544 0), (40, AV.ptr 278568 0 0)], h := { objs := [(278544, 1, [AO.map had false]), (278568, 1, [AO.iter es []])] } }) (Res.code (X.exit 2) { σ := slots 80 [(0, AV.d (DV.mp es)), (1, AV.d (DV.sl 2 full rows))], h := H.push (H.push { } (site 34 16) (AO.map had false)) (site 34 40) AO.dead })) (h4 : ↑(List.length rows) = i56) (h5 : Ev C0 noO (Task.code 34 false (loopOf Try.prog 34 2) { σ := slots 80 [(0, AV.d (DV.mp es)), (12, vi (-1)), (55, AV.d (DV.sl 2 full rows)), (56, vi i56), (57, vi 0)], h := { objs := [(278544, 1, [AO.map had false]), (278568, 1, [AO.dead])] } }) (Res.code (X.exit 4) { σ := slots 80 [], h := H.push (H.push { } (site 34 16) (AO.map had false)) (site 34 40) AO.dead })) :
    Ev C0 noO (Task.call 34 [AV.d (DV.mp es), AV.d (DV.sl 2 full rows)] { }) (.val (vi 0) { objs := [(278544, 1, [AO.map had false]), (278568, 1, [AO.dead])] }) :=
  sym_ev 60 _ [(site 34 18, Dec.int i18), (site 34 8001, Dec.loop [0, 1, 5, 17, 18, 19] (X.exit 0) { σ := slots 80 [(0, AV.d (DV.mp es)), (1, AV.d (DV.sl 2 full rows)), (5, AV.mp (site 34 16) 0)], h := H.push { } (site 34 16) (AO.map had false) }), (site 34 8001, Dec.loop [0, 1, 5, 40] (X.exit 2) { σ := slots 80 [(0, AV.d (DV.mp es)), (1, AV.d (DV.sl 2 full rows))], h := H.push (H.push { } (site 34 16) (AO.map had false)) (site 34 40) AO.dead }), (site 34 56, Dec.int i56), (site 34 8001, Dec.loop [0, 12, 55, 56, 57] (X.exit 4) { σ := slots 80 [], h := H.push (H.push { } (site 34 16) (AO.map had false)) (site 34 40) AO.dead })] _ [] _ (by kernel_rfl) (AllP_cons h1 (AllP_cons h2 (AllP_cons h3 (AllP_cons h4 (AllP_cons h5 AllP_nil)))))
theorem fitsN_l1 (es : List (Value × Bool × List DV)) (had : List (Value × Bool × List DV)) (h1 : Ev C0 noO (Task.code 34 false (loopOf Try.prog 34 0) { σ := slots 80 [(0, AV.d (DV.mp es)), (1, AV.d (DV.v (Value.slice none 0 0))), (5, AV.mp 278544 0), (17, AV.d (DV.v (Value.slice none 0 0))), (18, vi 0), (19, vi 0)], h := { objs := [(278544, 1, [AO.map [] false])] } }) (Res.code X.ret { σ := slots 80 [(4, vi 1)], h := H.push { } (site 34 16) (AO.map had false) })) :
    Ev C0 noO (Task.call 34 [AV.d (DV.mp es), AV.d (DV.v (Value.slice none 0 0))] { }) (.val (vi 1) { objs := [(278544, 1, [AO.map had false])] }) :=
  sym_ev 60 _ [(site 34 8001, Dec.loop [0, 1, 5, 17, 18, 19] X.ret { σ := slots 80 [(4, vi 1)], h := H.push { } (site 34 16) (AO.map had false) })] _ [] _ (by kernel_rfl) (AllP_cons h1 AllP_nil)
theorem fitsN_l2l1 (es : List (Value × Bool × List DV)) (had : List (Value × Bool × List DV)) (h1 : Ev C0 noO (Task.code 34 false (loopOf Try.prog 34 0) { σ := slots 80 [(0, AV.d (DV.mp es)), (1, AV.d (DV.v (Value.slice none 0 0))), (5, AV.mp 278544 0), (17, AV.d (DV.v (Value.slice none 0 0))), (18, vi 0), (19, vi 0)], h := { objs := [(278544, 1, [AO.map [] false])] } }) (Res.code (X.exit 0) { σ := slots 80 [(0, AV.d (DV.mp es)), (1, AV.d (DV.v (Value.slice none 0 0))), (5, AV.mp (site 34 16) 0)], h := H.push { } (site 34 16) (AO.map had false) })) (h2 : Ev C0 noO (Task.code 34 false (loopOf Try.prog 34 1) { σ := slots 80 [(0, AV.d (DV.mp es)), (1, AV.d (DV.v (Value.slice none 0 0))), (5, AV.mp 278544 0), (40, AV.ptr 278568 0 0)], h := { objs := [(278544, 1, [AO.map had false]), (278568, 1, [AO.iter es []])] } }) (Res.code X.ret { σ := slots 80 [(4, vi 8)], h := H.push (H.push { } (site 34 16) (AO.map had false)) (site 34 40) AO.dead })) :
    Ev C0 noO (Task.call 34 [AV.d (DV.mp es), AV.d (DV.v (Value.slice none 0 0))] { }) (.val (vi 8) { objs := [(278544, 1, [AO.map had false]), (278568, 1, [AO.dead])] }) :=
  sym_ev 60 _ [(site 34 8001, Dec.loop [0, 1, 5, 17, 18, 19] (X.exit 0) { σ := slots 80 [(0, AV.d (DV.mp es)), (1, AV.d (DV.v (Value.slice none 0 0))), (5, AV.mp (site 34 16) 0)], h := H.push { } (site 34 16) (AO.map had false) }), (site 34 8001, Dec.loop [0, 1, 5, 40] X.ret { σ := slots 80 [(4, vi 8)], h := H.push (H.push { } (site 34 16) (AO.map had false)) (site 34 40) AO.dead })] _ [] _ (by kernel_rfl) (AllP_cons h1 (AllP_cons h2 AllP_nil))
theorem fitsN_l2l2l1 (es : List (Value × Bool × List DV)) (had : List (Value × Bool × List DV)) (h1 : Ev C0 noO (Task.code 34 false (loopOf Try.prog 34 0) { σ := slots 80 [(0, AV.d (DV.mp es)), (1, AV.d (DV.v (Value.slice none 0 0))), (5, AV.mp 278544 0), (17, AV.d (DV.v (Value.slice none 0 0))), (18, vi 0), (19, vi 0)], h := { objs := [(278544, 1, [AO.map [] false])] } }) (Res.code (X.exit 0) { σ := slots 80 [(0, AV.d (DV.mp es)), (1, AV.d (DV.v (Value.slice none 0 0))), (5, AV.mp (site 34 16) 0)], h := H.push { } (site 34 16) (AO.map had false) })) (h2 : Ev C0 noO (Task.code 34 false (loopOf Try.prog 34 1) { σ := slots 80 [(0, AV.d (DV.mp es)), (1, AV.d (DV.v (Value.slice none 0 0))), (5, AV.mp 278544 0), (40, AV.ptr 278568 0 0)], h := { objs := [(278544, 1, [AO.map had false]), (278568, 1, [AO.iter es []])] } }) (Res.code (X.exit 2) { σ := slots 80 [(0, AV.d (DV.mp es)), (1, AV.d (DV.v (Value.slice none 0 0)))], h := H.push (H.push { } (site 34 16) (AO.map had false)) (site 34 40) AO.dead })) (h3 : Ev C0 noO (Task.code 34 false (loopOf Try.prog 34 2) { σ := slots 80 [(0, AV.d (DV.mp es)), (12, vi (-1)), (55, AV.d (DV.v (Value.slice none 0 0))), (56, vi 0), (57, vi 0)], h := { objs := [(278544, 1, [AO.map had false]), (278568, 1, [AO.dead])] } }) (Res.code X.ret { σ := slots 80 [(4, vi 9)], h := H.push (H.push { } (site 34 16) (AO.map had false)) (site 34 40) AO.dead })) :
    Ev C0 noO (Task.call 34 [AV.d (DV.mp es), AV.d (DV.v (Value.slice none 0 0))] { }) (.val (vi 9) { objs := [(278544, 1, [AO.map had false]), (278568, 1, [AO.dead])] }) :=
  sym_ev 60 _ [(site 34 8001, Dec.loop [0, 1, 5, 17, 18, 19] (X.exit 0) { σ := slots 80 [(0, AV.d (DV.mp es)), (1, AV.d (DV.v (Value.slice none 0 0))), (5, AV.mp (site 34 16) 0)], h := H.push { } (site 34 16) (AO.map had false) }), (site 34 8001, Dec.loop [0, 1, 5, 40] (X.exit 2) { σ := slots 80 [(0, AV.d (DV.mp es)), (1, AV.d (DV.v (Value.slice none 0 0)))], h := H.push (H.push { } (site 34 16) (AO.map had false)) (site 34 40) AO.dead }), (site 34 8001, Dec.loop [0, 12, 55, 56, 57] X.ret { σ := slots 80 [(4, vi 9)], h := H.push (H.push { } (site 34 16) (AO.map had false)) (site 34 40) AO.dead })] _ [] _ (by kernel_rfl) (AllP_cons h1 (AllP_cons h2 (AllP_cons h3 AllP_nil)))
theorem fitsN_l2l2l2 (es : List (Value × Bool × List DV)) (had : List (Value × Bool × List DV)) (h1 : Ev C0 noO (Task.code 34 false (loopOf Try.prog 34 0) { σ := slots 80 [(0, AV.d (DV.mp es)), (1, AV.d (DV.v (Value.slice none 0 0))), (5, AV.mp 278544 0), (17, AV.d (DV.v (Value.slice none 0 0))), (18, vi 0), (19, vi 0)], h := { objs := [(278544, 1, [AO.map [] false])] } }) (Res.code (X.exit 0) { σ := slots 80 [(0, AV.d (DV.mp es)), (1, AV.d (DV.v (Value.slice none 0 0))), (5, AV.mp (site 34 16) 0)], h := H.push { } (site 34 16) (AO.map had false) })) (h2 : Ev C0 noO (Task.code 34 false (loopOf Try.prog 34 1) { σ := slots 80 [(0, AV.d (DV.mp es)), (1, AV.d (DV.v (Value.slice none 0 0))), (5, AV.mp 278544 0), (40, AV.ptr 278568 0 0)], h := { objs := [(278544, 1, [AO.map had false]), (278568, 1, [AO.iter es []])] } }) (Res.code (X.exit 2) { σ := slots 80 [(0, AV.d (DV.mp es)), (1, AV.d (DV.v (Value.slice none 0 0)))], h := H.push (H.push { } (site 34 16) (AO.map had false)) (site 34 40) AO.dead })) (h3 : Ev C0 noO (Task.code 34 false (loopOf Try.prog 34 2) { σ := slots 80 [(0, AV.d (DV.mp es)), (12, vi (-1)), (55, AV.d (DV.v (Value.slice none 0 0))), (56, vi 0), (57, vi 0)], h := { objs := [(278544, 1, [AO.map had false]), (278568, 1, [AO.dead])] } }) (Res.code (X.exit 4) { σ := slots 80 [], h := H.push (H.push { } (site 34 16) (AO.map had false)) (site 34 40) AO.dead })) :
    Ev C0 noO (Task.call 34 [AV.d (DV.mp es), AV.d (DV.v (Value.slice none 0 0))] { }) (.val (vi 0) { objs := [(278544, 1, [AO.map had false]), (278568, 1, [AO.dead])] }) :=
  sym_ev 60 _ [(site 34 8001, Dec.loop [0, 1, 5, 17, 18, 19] (X.exit 0) { σ := slots 80 [(0, AV.d (DV.mp es)), (1, AV.d (DV.v (Value.slice none 0 0))), (5, AV.mp (site 34 16) 0)], h := H.push { } (site 34 16) (AO.map had false) }), (site 34 8001, Dec.loop [0, 1, 5, 40] (X.exit 2) { σ := slots 80 [(0, AV.d (DV.mp es)), (1, AV.d (DV.v (Value.slice none 0 0)))], h := H.push (H.push { } (site 34 16) (AO.map had false)) (site 34 40) AO.dead }), (site 34 8001, Dec.loop [0, 12, 55, 56, 57] (X.exit 4) { σ := slots 80 [], h := H.push (H.push { } (site 34 16) (AO.map had false)) (site 34 40) AO.dead })] _ [] _ (by kernel_rfl) (AllP_cons h1 (AllP_cons h2 (AllP_cons h3 AllP_nil)))

end Go.Ev

namespace Go.Ev
open Go Go.RowKit Go.Proofs

/-- the first look: is each call one that has begun, and once? With whom it has had at the end -/
def fits1 (m : MapE) : List (Int × Int) → List (Int × Int) → Bool × List (Int × Int)
  | had, [] => (true, had)
  | had, c :: r => if (getKV c m).isSome && !had.contains c then fits1 m (had ++ [c]) r else (false, had)
def isBad (had : List (Int × Int)) (e : (Int × Int) × (Int × Int)) : Bool := decide (e.2.2 ≥ 0) && !had.contains e.1
def late (m : MapE) : Int → List (Int × Int) → Bool
  | _, [] => false
  | last, c :: r => let s := (getKV c m).getD (0, 0)
    if s.2 ≥ 0 ∧ s.2 < last then true else late m (if s.1 > last then s.1 else last) r
def fitsI (m : MapE) (order : List (Int × Int)) : Int :=
  if (fits1 m [] order).1 = false then 1 else if m.any (isBad (fits1 m [] order).2) then 8 else if late m (-1) order then 9 else 0

/-! ### the first loop -/
def f1H (had : List (Int × Int)) : H := ({} : H).push (site 34 16) (.map (had.map hadA) false)
def f1Hd (m : MapE) (y : DV) (had : List (Int × Int)) (n i : Int) : St := { σ := slots 80 [(0, .d (.mp (m.map entA))), (1, .d y), (5, .mp (site 34 16) 0), (17, .d y), (18, vi n), (19, vi i)], h := f1H had }
def f1Out (m : MapE) (y : DV) : Bool × List (Int × Int) → X × St
  | (true, had) => (.exit 0, { σ := slots 80 [(0, .d (.mp (m.map entA))), (1, .d y), (5, .mp (site 34 16) 0)], h := f1H had })
  | (false, had) => (.ret, { σ := slots 80 [(4, vi 1)], h := f1H had })
theorem f1_loop (full : Bool) (m : MapE) (all : List (Int × Int)) (hb : all.length < 2 ^ 40) : ∀ (rest pre had : List (Int × Int)), pre ++ rest = all →
    Ev C0 noO (.code 34 false (loopOf Try.prog 34 0) (f1Hd m (.sl 2 full (rowsP all)) had (all.length : Nat) (pre.length : Nat))) (.code (f1Out m (.sl 2 full (rowsP all)) (fits1 m had rest)).1 (f1Out m (.sl 2 full (rowsP all)) (fits1 m had rest)).2)
  | [], pre, had, h => fa_n _ _ _ _ _ _ (dge (by subst h; simp))
  | c :: rest, pre, had, h => by
    have hlt := pre_lt h
    have ih := fun had => f1_loop full m all hb rest (pre ++ [c]) had (pre_snoc h)
    simp only [len_snoc] at ih
    have hl := look59ok (C := C0) rfl c m
    have hd := look80 (C := C0) rfl c had
    unfold fits1
    cases h1 : (getKV c m).isSome with
    | false =>
      rw [h1] at hl
      exact fa_yt2 _ _ _ _ _ _ c _ (dlt hlt) (row_at (g := rowP) h) hl
    | true =>
      rw [h1] at hl
      cases h2 : had.contains c with
      | true =>
        rw [h2] at hd
        exact fa_yt1t1 _ _ _ _ _ _ c _ (dlt hlt) (row_at (g := rowP) h) hl hd
      | false =>
        rw [h2] at hd
        exact fa_yt1t2L _ _ _ _ _ _ c _ _ ((pre.length + 1 : Nat) : Int) _ _ (dlt hlt) (row_at (g := rowP) h) hl hd (upd80 rfl c had h2) (wrap_succ (by omega)) (ih _)

/-! ### the second loop: over the map, in whatever order -/
def f2H (had : List (Int × Int)) (o : AO) : H := (f1H had).push (site 34 40) o
def f2Hd (m : MapE) (y : DV) (had : List (Int × Int)) (seen : List Nat) : St := { σ := slots 80 [(0, .d (.mp (m.map entA))), (1, .d y), (5, .mp (site 34 16) 0), (40, .ptr (site 34 40) 0 0)], h := f2H had (.iter (m.map entA) seen) }
def f2Out (m : MapE) (y : DV) (had : List (Int × Int)) : Bool → X × St
  | true => (.ret, { σ := slots 80 [(4, vi 8)], h := f2H had .dead })
  | false => (.exit 2, { σ := slots 80 [(0, .d (.mp (m.map entA))), (1, .d y)], h := f2H had .dead })
def badAt (m : MapE) (had : List (Int × Int)) (i : Nat) : Bool := match m[i]? with
  | some e => isBad had e
  | none => false
def f2S2 (m : MapE) (y : DV) (had : List (Int × Int)) (seen : List Nat) (ch : Option Nat) : St :=
  { σ := slots 80 [(0, .d (.mp (m.map entA))), (1, .d y), (5, .mp (site 34 16) 0), (40, .ptr (site 34 40) 0 0), (41, nextA ch), (42, vb ch.isSome)], h := f2H had (.iter (m.map entA) (nextSeen seen ch)) }
def f2X3 (m : MapE) (had : List (Int × Int)) : Option Nat → X
  | none => .exit 2
  | some i => if badAt m had i then .ret else .normal
def f2S3 (m : MapE) (y : DV) (had : List (Int × Int)) (seen : List Nat) : Option Nat → St
  | none => (f2Out m y had false).2
  | some i => if badAt m had i then (f2Out m y had true).2 else f2Hd m y had (i :: seen)

theorem f2_code : ∃ id, loopOf Try.prog 34 1 = .loop (.seq (.region id (loopOps Try.prog 34 1) false) (loopTail Try.prog 34 1)) := ⟨11, by kernel_rfl⟩
theorem f2_op : ∃ o, (loopOps Try.prog 34 1)[0]? = some o ∧ o.op = .next (.tmp 40) false ∧ o.guard = none ∧ o.dst = some 41 := ⟨((loopOps Try.prog 34 1)[0]?).getD default, by kernel_rfl, by kernel_rfl, by kernel_rfl, by kernel_rfl⟩
theorem f2_size : (loopOps Try.prog 34 1).size = 2 := by kernel_rfl
theorem f2_ops (m : MapE) (y : DV) (had : List (Int × Int)) (seen : List Nat) (ch : Option Nat) :
    Ev C0 noO (.ops 34 (loopOps Try.prog 34 1) (List.range' 1 1) ((f2Hd m y had seen).put (some 41) (nextA ch) ((f2Hd m y had seen).h.set (site 34 40) 0 (.iter (m.map entA) (nextSeen seen ch))))) (.ops (f2S2 m y had seen ch)) := by
  cases ch with
  | none => exact sym_ev 5 _ [] _ [] _ (by kernel_rfl) AllP_nil
  | some i => exact sym_ev 5 _ [] _ [] _ (by kernel_rfl) AllP_nil

def left (n : Nat) (seen : List Nat) : Nat := (List.range n).countP fun i => !seen.contains i
theorem countP_lt {p q : Nat → Bool} (hpq : ∀ x, p x = true → q x = true) {i : Nat} (hp : p i = false) (hq : q i = true) : ∀ (l : List Nat), l.countP p ≤ l.countP q ∧ (i ∈ l → l.countP p < l.countP q)
  | [] => by simp
  | x :: l => by
    obtain ⟨h1, h2⟩ := countP_lt hpq hp hq l
    simp only [List.countP_cons]
    by_cases hx : x = i
    · subst hx
      simp only [hp, hq, if_true, Bool.false_eq_true, if_false]
      exact ⟨by omega, fun _ => by omega⟩
    · have h3 : (if p x = true then 1 else 0) ≤ (if q x = true then 1 else 0) := by
        cases e : p x with
        | false => simp
        | true => simp [hpq x e]
      refine ⟨by omega, fun hm => ?_⟩
      have hm' : i ∈ l := by
        rcases List.mem_cons.1 hm with h | h
        · exact absurd h.symm hx
        · exact h
      have := h2 hm'
      omega
theorem left_lt {n i : Nat} {seen : List Nat} (hi : i < n) (hs : seen.contains i = false) : left n (i :: seen) < left n seen :=
  (countP_lt (p := fun j => !(i :: seen).contains j) (q := fun j => !seen.contains j) (i := i) (fun x h => by
    simp only [List.contains_cons, Bool.not_or, Bool.and_eq_true] at h; exact h.2) (by simp) (by simp only [hs]; rfl) _).2 (by simpa using hi)

theorem entry_m {m : MapE} {i : Nat} {e : (Int × Int) × (Int × Int)} (h : m[i]? = some e) : entryA (m.map entA) i = some (.tup [aggP e.1, aggP e.2]) := by
  unfold entryA
  simp only [List.getElem?_map, h, Option.map_some]
  rfl

theorem f2_body (m : MapE) (y : DV) (had : List (Int × Int)) (seen : List Nat) (ch : Option Nat) (hok : okCh m.length seen ch = true) :
    Ev C0 noO (.code 34 false (loopTail Try.prog 34 1) (f2S2 m y had seen ch)) (.code (f2X3 m had ch) (f2S3 m y had seen ch)) := by
  cases ch with
  | none => exact .killOut _ _ _ _ _ _ (site 34 40) 0 (.iter (m.map entA) seen) (by kernel_rfl) (fbN_ y _ (m.map entA) (had.map hadA) seen)
  | some i =>
    have hi : i < m.length := okCh_lt hok
    have he : m[i]? = some m[i] := List.getElem?_eq_getElem hi
    have hd := look80 (C := C0) rfl m[i].1 had
    have hba : badAt m had i = isBad had m[i] := by simp [badAt, he]
    unfold f2X3 f2S3
    simp only [hba]
    by_cases h2 : m[i].2.2 ≥ 0
    · cases h3 : had.contains m[i].1 with
      | true =>
        rw [h3] at hd
        have hb : isBad had m[i] = false := by simp only [isBad, h3]; simp
        rw [hb]
        exact fb_yt1 y _ (m.map entA) (had.map hadA) i seen _ _ (entry_m he) (by simpa using h2) hd
      | false =>
        rw [h3] at hd
        have hb : isBad had m[i] = true := by simp only [isBad, h3]; simpa using h2
        rw [hb]
        exact .killOut _ _ _ _ _ _ (site 34 40) 0 (.iter (m.map entA) (i :: seen)) (by kernel_rfl) (fb_yt2 y _ (m.map entA) (had.map hadA) i seen _ _ (entry_m he) (by simpa using h2) hd)
    · have hb : isBad had m[i] = false := by simp [isBad, h2]
      rw [hb]
      exact fb_n y _ (m.map entA) (had.map hadA) i seen _ _ (entry_m he) (by simpa using h2)

theorem f2_loop (m : MapE) (y : DV) (had : List (Int × Int)) : ∀ (k : Nat) (seen : List Nat), left m.length seen < k → (∀ i ∈ seen, badAt m had i = false) →
    Ev C0 noO (.code 34 false (loopOf Try.prog 34 1) (f2Hd m y had seen)) (.code (f2Out m y had (m.any (isBad had))).1 (f2Out m y had (m.any (isBad had))).2)
  | 0, seen, h, _ => by omega
  | k + 1, seen, h, hg => by
    obtain ⟨id, hc⟩ := f2_code
    obtain ⟨o, ho, hop, hgd, hdst⟩ := f2_op
    have hlen : (m.map entA).length = m.length := by simp
    have hnone : okCh m.length seen none = true → m.any (isBad had) = false := by
      intro hok
      rw [List.any_eq_false]
      intro e he
      obtain ⟨i, hi, rfl⟩ := List.mem_iff_getElem.1 he
      have hs : i ∈ seen := by
        simp only [okCh, List.all_eq_true, List.mem_range] at hok
        simpa using hok i hi
      have := hg i hs
      simp only [badAt, List.getElem?_eq_getElem hi] at this
      simp [this]
    have hsome : ∀ i, okCh m.length seen (some i) = true → badAt m had i = true → m.any (isBad had) = true := by
      intro i hok hb
      have hi := okCh_lt hok
      simp only [badAt, List.getElem?_eq_getElem hi] at hb
      rw [List.any_eq_true]
      exact ⟨_, List.getElem_mem hi, hb⟩
    rw [hc]
    refine .nextLoop 34 false id _ _ _ _ _ o (.tmp 40) (site 34 40) 0 (m.map entA) seen (f2S2 m y had seen) (f2S3 m y had seen) (f2X3 m had) ho hop hgd (by kernel_rfl) (by kernel_rfl) ?_ ?_ ?_ ?_
    · intro ch hok
      rw [f2_size, hdst]
      exact f2_ops m y had seen ch
    · intro ch hok
      rw [hlen] at hok
      exact f2_body m y had seen ch hok
    · intro ch hok hx
      rw [hlen] at hok
      cases ch with
      | none => cases hx
      | some i =>
        have hx' : (if badAt m had i then X.ret else X.normal) = .normal := hx
        split at hx'
        · cases hx'
        · rename_i hb
          have hb' : badAt m had i = false := by simpa using hb
          have e : f2S3 m y had seen (some i) = f2Hd m y had (i :: seen) := by simp [f2S3, hb']
          rw [e, ← hc]
          have hok' := hok
          simp only [okCh, Bool.and_eq_true, decide_eq_true_eq, Bool.not_eq_true'] at hok'
          refine f2_loop m y had k (i :: seen) ?_ ?_
          · have := left_lt hok'.1 hok'.2
            omega
          · intro j hj
            rcases List.mem_cons.1 hj with rfl | hj
            · exact hb'
            · exact hg j hj
    · intro ch hok hx
      rw [hlen] at hok
      cases ch with
      | none => rw [hnone hok]; exact ⟨rfl, rfl⟩
      | some i =>
        have hx' : (if badAt m had i then X.ret else X.normal) ≠ .normal := hx
        split at hx'
        · rename_i hb
          rw [hsome i hok hb]
          exact ⟨by simp [f2X3, hb, f2Out], by simp [f2S3, hb]⟩
        · exact absurd rfl hx'

/-! ### the third loop -/
def f3Hd (m : MapE) (y : DV) (had : List (Int × Int)) (n i last : Int) : St := { σ := slots 80 [(0, .d (.mp (m.map entA))), (12, vi last), (55, .d y), (56, vi n), (57, vi i)], h := f2H had .dead }
def f3Out (had : List (Int × Int)) : Bool → X × St
  | true => (.ret, { σ := slots 80 [(4, vi 9)], h := f2H had .dead })
  | false => (.exit 4, { σ := slots 80 [], h := f2H had .dead })
theorem f3_loop (full : Bool) (m : MapE) (had : List (Int × Int)) (all : List (Int × Int)) (hb : all.length < 2 ^ 40) : ∀ (rest pre : List (Int × Int)) (last : Int), pre ++ rest = all →
    Ev C0 noO (.code 34 false (loopOf Try.prog 34 2) (f3Hd m (.sl 2 full (rowsP all)) had (all.length : Nat) (pre.length : Nat) last)) (.code (f3Out had (late m last rest)).1 (f3Out had (late m last rest)).2)
  | [], pre, last, h => fc_n _ _ _ _ _ _ _ (dge (by subst h; simp))
  | c :: rest, pre, last, h => by
    have hlt := pre_lt h
    have ih := fun last => f3_loop full m had all hb rest (pre ++ [c]) last (pre_snoc h)
    simp only [len_snoc] at ih
    have hl := look59 (C := C0) rfl c m
    unfold late
    by_cases h1 : ((getKV c m).getD (0, 0)).2 ≥ 0
    · by_cases h2 : ((getKV c m).getD (0, 0)).2 < last
      · simp only [h1, h2, and_self, if_true]
        exact fc_yyy _ _ _ _ _ _ _ c _ (dlt hlt) (row_at (g := rowP) h) hl (by simpa using h1) (by simpa using h2)
      · simp only [h1, h2, and_false, if_false]
        exact fc_yynL _ _ _ _ _ _ _ c _ _ _ ((pre.length + 1 : Nat) : Int) _ _ (dlt hlt) (row_at (g := rowP) h) hl (by simpa using h1) (by simpa using h2) hl rfl (wrap_succ (by omega)) (ih _)
    · simp only [h1, false_and, if_false]
      exact fc_ynL _ _ _ _ _ _ _ c _ _ _ ((pre.length + 1 : Nat) : Int) _ _ (dlt hlt) (row_at (g := rowP) h) hl (by simpa using h1) hl rfl (wrap_succ (by omega)) (ih _)

def fitsSpec : List PV → Option (List PV)
  | [.one (.mp es), p] => match allSome entI es, callsOf p with
    | some m, some order => if order.length < 2 ^ 40 then some [pint (fitsI m order)] else none
    | _, _ => none
  | _ => none
theorem fits_sat : Sat C0 34 fitsSpec := by
  refine sat_of_ev (O := noO) hP0 (fun _ _ h => h.elim) hm0 fun ps rs hs => ?_
  unfold fitsSpec at hs
  split at hs
  · rename_i es p
    split at hs
    · rename_i m order hm hp
      split at hs
      · rename_i hb
        simp only [Option.some.injEq] at hs
        subst hs
        obtain rfl : es = m.map entA := rows_eq (fun _ _ => entI_eq) hm
        have h2 := fun y had => f2_loop m y had (left m.length [] + 1) [] (by omega) (by simp)
        rcases callsOf_cases hp with ⟨rfl, rfl⟩ | ⟨full, rfl⟩
        · have h1 := faA_n (.v (.slice none 0 0)) 0 0 (m.map entA) [] (by decide)
          have h2 := h2 (.v (.slice none 0 0)) []
          have h3 := fcA_n (.v (.slice none 0 0)) 0 0 (-1) (m.map entA) [] (by decide)
          unfold fitsI fits1 late
          simp only [Bool.true_eq_false, if_false]
          cases hany : m.any (isBad []) with
          | true =>
            rw [hany] at h2
            exact ⟨_, _, _, fitsN_l2l1 (m.map entA) [] h1 h2, rfl⟩
          | false =>
            rw [hany] at h2
            exact ⟨_, _, _, fitsN_l2l2l2 (m.map entA) [] h1 h2 h3, rfl⟩
        · have h1 := f1_loop full m order hb order [] [] rfl
          unfold fitsI
          cases e1 : fits1 m [] order with
          | mk ok had =>
            rw [e1] at h1
            cases ok with
            | false => exact ⟨_, _, _, fits_l1 full _ (m.map entA) (had.map hadA) (order.length : Nat) (by simp [rowsP]) h1, rfl⟩
            | true =>
              simp only [Bool.true_eq_false, if_false]
              have h2 := h2 (.sl 2 full (rowsP order)) had
              cases hany : m.any (isBad had) with
              | true =>
                rw [hany] at h2
                exact ⟨_, _, _, fits_l2l1 full _ (m.map entA) (had.map hadA) (order.length : Nat) (by simp [rowsP]) h1 h2, rfl⟩
              | false =>
                rw [hany] at h2
                have h3 := f3_loop full m had order hb order [] (-1) rfl
                cases hlate : late m (-1) order with
                | true =>
                  rw [hlate] at h3
                  exact ⟨_, _, _, fits_l2l2l1 full _ (m.map entA) (had.map hadA) (order.length : Nat) (order.length : Nat) (by simp [rowsP]) h1 h2 (by simp [rowsP]) h3, rfl⟩
                | false =>
                  rw [hlate] at h3
                  exact ⟨_, _, _, fits_l2l2l2 full _ (m.map entA) (had.map hadA) (order.length : Nat) (order.length : Nat) (by simp [rowsP]) h1 h2 (by simp [rowsP]) h3, rfl⟩
      · cases hs
    · cases hs
  · cases hs

end Go.Ev

namespace Go.Ev
open Go Go.RowKit Go.Proofs

def eqFields (P : Program) (d : Nat) (xs ys : Array Value) : List Field → Option Bool
  | [] => some true
  | f :: r => if f.name = "_" then eqFields P d xs ys r else
    match still P (part f.type xs f.offset), still P (part f.type ys f.offset) with
    | some x, some y => match still P (Op.equalIn d f.type x y) with
      | some true => eqFields P d xs ys r
      | some false => some false
      | none => none
    | _, _ => none

theorem eq_struct {P : Program} {t : TypeId} {fs : Array Field} (h : P.underlying t = some (.struct fs)) (hs : P.stoodInHeld t = false) (d : Nat) (xs ys : Array Value) :
    still P (Op.equalIn (d + 1) t (.agg xs) (.agg ys)) = eqFields P d xs ys fs.toList := by
  rw [Op.equalIn]
  simp only [still_bind, still_und h, still_program, hs, Bool.false_eq_true, if_false, still_pure]
  rw [← Array.forIn_toList]
  generalize fs.toList = l
  induction l with
  | nil => simp [still_pure, eqFields]
  | cons f r ih =>
    simp only [List.forIn_cons, eqFields]
    by_cases hn : f.name = "_"
    · simp only [hn, ne_eq, not_true_eq_false, if_false, if_true, still_bind, still_pure]
      exact ih
    · simp only [hn, ne_eq, not_false_eq_true, if_false, if_true, still_bind]
      cases h1 : still P (part f.type xs f.offset) with
      | none => rfl
      | some x =>
        cases h2 : still P (part f.type ys f.offset) with
        | none => rfl
        | some y =>
          simp only
          cases h3 : still P (Op.equalIn d f.type x y) with
          | none => rfl
          | some b =>
            cases b with
            | false => simp [still_pure]
            | true =>
              simp only [Bool.not_true, Bool.false_eq_true, if_false, still_pure, still_bind]
              exact ih

/-- fields as the comparison sees them -/
def eqParts (P : Program) (d : Nat) (xs ys : Array Value) : List (TypeId × Nat) → Option Bool
  | [] => some true
  | (t, o) :: r =>
    match still P (part t xs o), still P (part t ys o) with
    | some x, some y => match still P (Op.equalIn d t x y) with
      | some true => eqParts P d xs ys r
      | some false => some false
      | none => none
    | _, _ => none
def fieldsOf (P : Program) (t : TypeId) : List (TypeId × Nat) := match P.underlying t with
  | some (.struct fs) => if fs.toList.all (fun f => !(f.name == "_")) && !P.stoodInHeld t then fs.toList.map fun f => (f.type, f.offset) else []
  | _ => []
theorem eqFields_parts {P : Program} {d : Nat} {xs ys : Array Value} : ∀ (l : List Field), (l.all fun f => !(f.name == "_")) = true → eqFields P d xs ys l = eqParts P d xs ys (l.map fun f => (f.type, f.offset))
  | [], _ => rfl
  | f :: r, h => by
    simp only [List.all_cons, Bool.and_eq_true, Bool.not_eq_true', beq_eq_false_iff_ne, ne_eq] at h
    simp only [eqFields, h.1, if_false, List.map_cons, eqParts, eqFields_parts r h.2]
theorem eq_struct' {P : Program} {t : TypeId} (h : (fieldsOf P t).isEmpty = false) (d : Nat) (xs ys : Array Value) :
    still P (Op.equalIn (d + 1) t (.agg xs) (.agg ys)) = eqParts P d xs ys (fieldsOf P t) := by
  unfold fieldsOf at h ⊢
  split at h
  · rename_i fs e
    split at h
    · rename_i hc
      simp only [Bool.and_eq_true, Bool.not_eq_true'] at hc
      rw [if_pos (by simpa using hc), eq_struct e hc.2, eqFields_parts _ hc.1]
    · cases h
  · cases h

theorem eq_bool (d : Nat) (a b : Bool) : still Try.prog (Op.equalIn (d + 1) 4 (.bool a) (.bool b)) = some (a == b) := by
  have u4 : Try.prog.underlying 4 = some .bool := by kernel_rfl
  simp only [Op.equalIn, still_bind, still_und u4]
  simp [still_pure]
theorem eq_int33 (d : Nat) (a b : Int) : still Try.prog (Op.equalIn (d + 1) 33 (.int .i64 a) (.int .i64 b)) = some (a == b) := by
  have u : Try.prog.underlying 33 = some (.int .i64) := by kernel_rfl
  simp only [Op.equalIn, still_bind, still_und u]
  simp [still_pure]

theorem fld47 : fieldsOf Try.prog 47 = [(3, 0), (3, 1)] := by kernel_rfl
theorem fld49 : fieldsOf Try.prog 49 = [(33, 0), (3, 1), (47, 2)] := by kernel_rfl
theorem fld51 : fieldsOf Try.prog 51 = [(3, 0), (3, 1), (4, 2), (49, 3)] := by kernel_rfl

def Ans.val (a : Ans) : Value := .agg #[.int .i64 a.errno, .int .i64 a.n, .int .i64 a.slot, .int .i64 a.gen]
def Evt.val (e : Evt) : Value := .agg #[.int .i64 e.th, .int .i64 e.ca, .bool e.re, .int .i64 e.an.errno, .int .i64 e.an.n, .int .i64 e.an.slot, .int .i64 e.an.gen]

theorem eq47 (d : Nat) (a b c e : Int) : still Try.prog (Op.equalIn (d + 2) 47 (.agg #[.int .i64 a, .int .i64 b]) (.agg #[.int .i64 c, .int .i64 e])) = some ((a == c) && (b == e)) := by
  rw [show d + 2 = (d + 1) + 1 from rfl, eq_struct' (by rw [fld47]; rfl), fld47]
  have p0 : ∀ x y : Int, still Try.prog (part 3 #[.int .i64 x, .int .i64 y] 0) = some (.int .i64 x) := part_0
  have p1 : ∀ x y : Int, still Try.prog (part 3 #[.int .i64 x, .int .i64 y] 1) = some (.int .i64 y) := part_1
  simp only [eqParts, p0, p1, eq_int]
  cases a == c <;> cases b == e <;> rfl
theorem eq49 (d : Nat) (a b : Ans) : still Try.prog (Op.equalIn (d + 3) 49 a.val b.val) = some (decide (a = b)) := by
  obtain ⟨a1, a2, a3, a4⟩ := a
  obtain ⟨b1, b2, b3, b4⟩ := b
  unfold Ans.val
  simp only
  rw [show d + 3 = (d + 2) + 1 from rfl, eq_struct' (by rw [fld49]; rfl), fld49]
  have p0 : ∀ x y z u : Int, still Try.prog (part 33 #[.int .i64 x, .int .i64 y, .int .i64 z, .int .i64 u] 0) = some (.int .i64 x) := by intros; kernel_rfl
  have p1 : ∀ x y z u : Int, still Try.prog (part 3 #[.int .i64 x, .int .i64 y, .int .i64 z, .int .i64 u] 1) = some (.int .i64 y) := by intros; kernel_rfl
  have p2 : ∀ x y z u : Int, still Try.prog (part 47 #[.int .i64 x, .int .i64 y, .int .i64 z, .int .i64 u] 2) = some (.agg #[.int .i64 z, .int .i64 u]) := by intros; kernel_rfl
  simp only [eqParts, p0, p1, p2, eq_int33, eq_int, eq47]
  by_cases h1 : a1 = b1
  · by_cases h2 : a2 = b2
    · by_cases h3 : a3 = b3
      · by_cases h4 : a4 = b4
        · simp [h1, h2, h3, h4]
        · have e : (a4 == b4) = false := beq_eq_false_iff_ne.2 h4
          simp [h1, h2, h3, h4, e]
      · have e : (a3 == b3) = false := beq_eq_false_iff_ne.2 h3
        simp [h1, h2, h3, e]
    · have e : (a2 == b2) = false := beq_eq_false_iff_ne.2 h2
      simp [h1, h2, e]
  · have e : (a1 == b1) = false := beq_eq_false_iff_ne.2 h1
    simp [h1, e]
theorem eq51 (a b : Evt) : still Try.prog (Op.equal 51 a.val b.val) = some (decide (a = b)) := by
  show still Try.prog (Op.equalIn (9995 + 4 + 1) 51 a.val b.val) = _
  unfold Evt.val
  rw [eq_struct' (by rw [fld51]; rfl), fld51]
  have p0 : ∀ (x y : Int) (r : Bool) (c d e f : Int), still Try.prog (part 3 #[.int .i64 x, .int .i64 y, .bool r, .int .i64 c, .int .i64 d, .int .i64 e, .int .i64 f] 0) = some (.int .i64 x) := by intros; kernel_rfl
  have p1 : ∀ (x y : Int) (r : Bool) (c d e f : Int), still Try.prog (part 3 #[.int .i64 x, .int .i64 y, .bool r, .int .i64 c, .int .i64 d, .int .i64 e, .int .i64 f] 1) = some (.int .i64 y) := by intros; kernel_rfl
  have p2 : ∀ (x y : Int) (r : Bool) (c d e f : Int), still Try.prog (part 4 #[.int .i64 x, .int .i64 y, .bool r, .int .i64 c, .int .i64 d, .int .i64 e, .int .i64 f] 2) = some (.bool r) := by intros; kernel_rfl
  have p3 : ∀ (x y : Int) (r : Bool) (c d e f : Int), still Try.prog (part 49 #[.int .i64 x, .int .i64 y, .bool r, .int .i64 c, .int .i64 d, .int .i64 e, .int .i64 f] 3) = some (Ans.val ⟨c, d, e, f⟩) := by intros; kernel_rfl
  obtain ⟨a1, a2, a3, a4⟩ := a
  obtain ⟨b1, b2, b3, b4⟩ := b
  simp only [eqParts, p0, p1, p2, p3, eq_bool, eq_int, show 9995 + 4 = 9996 + 3 from rfl, eq49]
  by_cases h1 : a1 = b1
  · by_cases h2 : a2 = b2
    · by_cases h3 : a3 = b3
      · by_cases h4 : a4 = b4
        · subst h4; simp [h1, h2, h3]
        · have e : decide ((⟨a4.errno, a4.n, a4.slot, a4.gen⟩ : Ans) = ⟨b4.errno, b4.n, b4.slot, b4.gen⟩) = false := decide_eq_false h4
          rw [e]
          simp [h1, h2, h3, h4]
      · have e : (a3 == b3) = false := beq_eq_false_iff_ne.2 h3
        simp [h1, h2, h3, e]
    · have e : (a2 == b2) = false := beq_eq_false_iff_ne.2 h2
      simp [h1, h2, e]
  · have e : (a1 == b1) = false := beq_eq_false_iff_ne.2 h1
    simp [h1, e]

/-! ### cells of an array of events -/
def Evt.av (e : Evt) : List AV := [vi e.th, vi e.ca, vb e.re, vi e.an.errno, vi e.an.n, vi e.an.slot, vi e.an.gen]
def evCells (l : List Evt) : List AV := l.flatMap Evt.av
def Ans.av (a : Ans) : AV := .agg [vi a.errno, vi a.n, vi a.slot, vi a.gen]
def ans0 : Ans := ⟨0, 0, 0, 0⟩

end Go.Ev
