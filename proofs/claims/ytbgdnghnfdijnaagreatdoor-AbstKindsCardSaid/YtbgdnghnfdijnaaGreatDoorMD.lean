/- What the proof of this claim needs: part MD. No conditions. -/
import Derived.Test.YtbgdnghnfdijnaaGreatDoorMC
import Derived.Test.YtbgdnghnfdijnaaGreatDoorRows
set_option linter.unusedVariables false
set_option linter.unusedSimpArgs false

namespace Go.Ev
open Go Go.RowKit Go.Proofs

def vi (n : Int) : AV := .d (.v (.int .i64 n))
def vu (n : Int) : AV := .d (.v (.int .u64 n))
def vb (b : Bool) : AV := .d (.v (.bool b))
abbrev T : AV := .top
def pint (n : Int) : PV := .one (.v (.int .i64 n))
def pu (n : Int) : PV := .one (.v (.int .u64 n))
def pbool (b : Bool) : PV := .one (.v (.bool b))
def nilPV : PV := .one (.v (.slice none 0 0))
def di (n : Int) : DV := .v (.int .i64 n)
def du (n : Int) : DV := .v (.int .u64 n)
def db (b : Bool) : DV := .v (.bool b)
def spansG : List DV := [di 0, di 3, di 3, di 9, di 9, di 10, di 10, di 26, di 26, di 58]
def emptyG : List DV := [db false, db false, du 0, di (-1), di (-1), di (-1)]
def weightsG : List DV := [88761, 71755, 56483, 46273, 36291, 29154, 23254, 18705, 14949, 11916, 9548, 7620, 6100, 4904, 3906, 3121, 2501, 1991, 1586, 1277, 1024, 820, 655, 526, 423, 335, 272, 215, 172, 137, 110, 87, 70, 56, 45, 36, 29, 23, 18, 15].map di
def globs : Nat → Option (List DV)
  | 0 => some spansG
  | 1 => some emptyG
  | 2 => some weightsG
  | _ => none
theorem g_spans : Tryz.prog.globalNamed "turnspit/packed.spans" = some 0 := by kernel_rfl
theorem g_empty : Tryz.prog.globalNamed "turnspit/tree.empty" = some 1 := by kernel_rfl
theorem g_weights : Tryz.prog.globalNamed "turnspit/weight.weights" = some 2 := by kernel_rfl
noncomputable def C0 : Ctx := { P := Tryz.prog, glob := globs, pm := fun m => m == "turnspit/abst.item", wr := fun f _ => f == 100 }
theorem hm0 : Tryz.prog.follows .mixedOrders = true := by kernel_rfl
theorem hP0 : PrimOK C0 := fun g spec h => by cases h

end Go.Ev

namespace Go.Ev
open Go Go.RowKit Go.Proofs

theorem wrap_ok {n : Int} (h1 : -9223372036854775808 ≤ n) (h2 : n < 9223372036854775808) : IntKind.i64.wrap n = n := by
  simp only [IntKind.wrap, IntKind.bits, IntKind.signed]
  simp
  split <;> omega
theorem wrapU_ok {n : Int} (h1 : 0 ≤ n) (h2 : n < 18446744073709551616) : IntKind.u64.wrap n = n := by
  simp only [IntKind.wrap, IntKind.bits, IntKind.signed]
  simp
  omega
theorem wrap_succ {i : Nat} (h : i < 2 ^ 62) : IntKind.i64.wrap ((i : Int) + 1) = ((i + 1 : Nat) : Int) := by
  rw [wrap_ok (by omega) (by omega)]; simp

def bitN (c : Int) : Nat := if 0 ≤ c ∧ c < 64 then 2 ^ c.toNat else 0
def bitHd (c n i : Int) : St := { σ := [vi c, T, T, vu n, vi i, T, T, T, T, T, T, T, T, T, T, T, T, T, T], h := {} }
def bitOut (n : Int) : St := { σ := [T, T, T, vu n, T, T, T, T, T, T, T, T, T, T, T, T, T, T, T], h := {} }
theorem bit_end (c n i : Int) : symM C0 noO 60 41 false (loopOf Tryz.prog 41 0) (bitHd c n i) [(site 41 13, .b false)] [3] = some ((.exit 0, bitOut n), [], [decide (i < c) = false]) := by kernel_rfl
theorem bit_step (c n i n' i' : Int) (x : X) (s : St) : sym C0 noO 60 (.code 41 false (loopOf Tryz.prog 41 0) (bitHd c n i)) [(site 41 13, .b true), (site 41 17, .int n'), (site 41 15, .int i'), (site 41 8001, .loop [0, 3, 4] x s)] =
    some (.code x s, [], [decide (i < c) = true, IntKind.u64.wrap (n * 2) = n', IntKind.i64.wrap (i + 1) = i', Ev C0 noO (.code 41 false (loopOf Tryz.prog 41 0) (bitHd c n' i')) (.code x s)]) := by kernel_rfl
theorem bit_loop : ∀ (k i : Nat), i + k < 64 → Ev C0 noO (.code 41 false (loopOf Tryz.prog 41 0) (bitHd ((i + k : Nat) : Int) ((2 ^ i : Nat) : Int) (i : Int))) (.code (.exit 0) (bitOut ((2 ^ (i + k) : Nat) : Int)))
  | 0, i, h => symM_ev (bit_end _ _ _) (AllP_cons (by simp) AllP_nil)
  | k + 1, i, h => by
    have ih := bit_loop k (i + 1) (by omega)
    have e : i + 1 + k = i + (k + 1) := by omega
    rw [e] at ih
    have hp : 2 ^ (i + 1) ≤ 2 ^ 63 := Nat.pow_le_pow_right (by omega) (by omega)
    refine sym_ev _ _ _ _ _ _ (bit_step _ _ _ ((2 ^ (i + 1) : Nat) : Int) ((i + 1 : Nat) : Int) _ _) (AllP_cons (decide_eq_true (by omega)) (AllP_cons ?_ (AllP_cons (wrap_succ (by omega)) (AllP_cons ih AllP_nil))))
    have e2 : ((2 ^ i : Nat) : Int) * 2 = ((2 ^ (i + 1) : Nat) : Int) := by rw [Nat.pow_succ]; simp
    rw [e2]
    generalize 2 ^ (i + 1) = p at *
    exact wrapU_ok (by omega) (by omega)
theorem bit_neg (c : Int) : sym C0 noO 60 (.call 41 [vi c] {}) [(site 41 6, .b true)] = some (.val (vu 0) {}, [], [decide (c < 0) = true]) := by kernel_rfl
theorem bit_big (c : Int) : sym C0 noO 60 (.call 41 [vi c] {}) [(site 41 6, .b false), (site 41 9, .b true)] = some (.val (vu 0) {}, [], [decide (c < 0) = false, decide (63 < c) = true]) := by kernel_rfl
theorem bit_in (c n : Int) : sym C0 noO 60 (.call 41 [vi c] {}) [(site 41 6, .b false), (site 41 9, .b false), (site 41 8001, .loop [0, 3, 4] (.exit 0) (bitOut n))] =
    some (.val (vu n) {}, [], [decide (c < 0) = false, decide (63 < c) = false, Ev C0 noO (.code 41 false (loopOf Tryz.prog 41 0) (bitHd c 1 0)) (.code (.exit 0) (bitOut n))]) := by kernel_rfl
theorem bit_ev (c : Int) : Ev C0 noO (.call 41 [vi c] {}) (.val (vu (bitN c)) {}) := by
  unfold bitN
  split
  · rename_i h
    have hl := bit_loop c.toNat 0 (by omega)
    simp only [Nat.zero_add] at hl
    have e : ((c.toNat : Nat) : Int) = c := by omega
    rw [e] at hl
    exact sym_ev _ _ _ _ _ _ (bit_in c _) (AllP_cons (decide_eq_false (by omega)) (AllP_cons (decide_eq_false (by omega)) (AllP_cons (by simpa using hl) AllP_nil)))
  · rename_i h
    by_cases h0 : c < 0
    · exact sym_ev _ _ _ _ _ _ (bit_neg c) (AllP_cons (decide_eq_true h0) AllP_nil)
    · exact sym_ev _ _ _ _ _ _ (bit_big c) (AllP_cons (decide_eq_false h0) (AllP_cons (decide_eq_true (by omega)) AllP_nil))
def bitSpec : List PV → Option (List PV)
  | [.one (.v (.int .i64 c))] => some [pu (bitN c)]
  | _ => none
theorem bit_sat : Sat C0 41 bitSpec := by
  refine sat_of_ev (O := noO) hP0 (fun _ _ h => h.elim) hm0 fun ps rs hs => ?_
  unfold bitSpec at hs
  split at hs
  · rename_i c
    simp only [Option.some.injEq] at hs
    subst hs
    exact ⟨_, {}, {}, bit_ev c, rfl⟩
  · cases hs
end Go.Ev

namespace Go.Ev
open Go Go.RowKit Go.Proofs

abbrev Spec := List PV → Option (List PV)
/-- one function more is known -/
def addSpec (C : Ctx) (g : FuncId) (s : Spec) : Ctx := { C with prim := fun f => if f == g then some s else C.prim f }
theorem addSpec_ok {C : Ctx} (hP : PrimOK C) {g : FuncId} {s : Spec} (hs : Sat C g s) (hb : hasBody C g = true) : PrimOK (addSpec C g s) := by
  intro f spec h
  simp only [addSpec] at h
  split at h
  · rename_i hc
    simp only [Option.some.injEq] at h
    subst h
    obtain rfl : f = g := by simpa using hc
    exact ⟨hs.ctx rfl rfl, hasBody_eq hb⟩
  · obtain ⟨h1, h2⟩ := hP f spec h
    exact ⟨h1.ctx rfl rfl, h2⟩
noncomputable def S1 : Ctx := addSpec C0 41 bitSpec
theorem hS1 : PrimOK S1 := addSpec_ok hP0 bit_sat (by kernel_rfl)

theorem still_quo {P : Program} {t : TypeId} {a b : Int} (hb : b ≠ 0) : still P (binOp .quo t (.int .u64 a) (.int .u64 b)) = some (.int .u64 (IntKind.u64.wrap (a.tdiv b))) := by
  simp [binOp, Op.intDiv, hb]
  rfl
def hasI (m c : Int) : Bool := (((bitN c : Nat) : Int) != 0) && ((IntKind.u64.wrap (m.tdiv (bitN c))).tmod 2 == 1)
theorem has_no (m c b : Int) : sym S1 noO 60 (.call 19 [vu m, vi c] {}) [(site 19 6, .prim [pu b]), (site 19 7, .b false)] = some (.val (vb false) {}, [], [bitSpec [pint c] = some [pu b], (b != 0) = false]) := by kernel_rfl
theorem has_in (m c b q r : Int) (t : Bool) : sym S1 noO 60 (.call 19 [vu m, vi c] {}) [(site 19 6, .prim [pu b]), (site 19 7, .b true), (site 19 11, .prim [pu b]), (site 19 12, .ari .u64 q), (site 19 13, .ari .u64 r), (site 19 14, .b t)] =
    some (.val (vb t) {}, [], [bitSpec [pint c] = some [pu b], (b != 0) = true, bitSpec [pint c] = some [pu b], still Tryz.prog (binOp .quo 39 (.int .u64 m) (.int .u64 b)) = some (.int .u64 q),
      still Tryz.prog (binOp .rem 39 (.int .u64 q) (.int .u64 2)) = some (.int .u64 r), (r == 1) = t]) := by kernel_rfl
theorem has_ev (m c : Int) : Ev S1 noO (.call 19 [vu m, vi c] {}) (.val (vb (hasI m c)) {}) := by
  unfold hasI
  cases h : (((bitN c : Nat) : Int) != 0) with
  | false => exact sym_ev _ _ _ _ _ _ (has_no m c _) (AllP_cons rfl (AllP_cons h AllP_nil))
  | true =>
    refine sym_ev _ _ _ _ _ _ (has_in m c _ _ _ _) (AllP_cons rfl (AllP_cons h (AllP_cons rfl (AllP_cons (still_quo (by simpa using h)) (AllP_cons rfl (AllP_cons ?_ AllP_nil))))))
    simp
def hasSpec : Spec
  | [.one (.v (.int .u64 m)), .one (.v (.int .i64 c))] => some [pbool (hasI m c)]
  | _ => none
theorem has_sat : Sat C0 19 hasSpec := by
  refine Sat.ctx (C := S1) rfl rfl (sat_of_ev (O := noO) hS1 (fun _ _ h => h.elim) hm0 fun ps rs hs => ?_)
  unfold hasSpec at hs
  split at hs
  · rename_i m c
    simp only [Option.some.injEq] at hs
    subst hs
    exact ⟨_, {}, {}, has_ev m c, rfl⟩
  · cases hs
noncomputable def S2 : Ctx := addSpec S1 19 hasSpec
theorem hS2 : PrimOK S2 := addSpec_ok hS1 (has_sat.ctx rfl rfl) (by kernel_rfl)
end Go.Ev

namespace Go.Ev
open Go Go.RowKit Go.Proofs

noncomputable def C1 : Ctx := addRun S2 500 [151, 135, 82, 83, 81, 80, 37, 42, 43, 45, 17, 91, 159, 95, 160, 144, 145, 147, 146, 140, 142, 191, 203, 239, 232, 233, 167, 168, 202, 200, 213, 218, 36]
theorem hP1 : PrimOK C1 := addRun_ok hS2 hm0 500 _
noncomputable def C2 : Ctx := addRun C1 500 [85, 78, 61, 192, 166, 103, 143, 105, 100, 90, 93, 158, 201, 150, 54, 50]
theorem hP2 : PrimOK C2 := addRun_ok hP1 hm0 500 _
noncomputable def C3 : Ctx := addRun C2 500 [44, 141, 40]
theorem hP3 : PrimOK C3 := addRun_ok hP2 hm0 500 _

end Go.Ev

namespace Go.Ev
open Go Go.RowKit Go.Proofs
noncomputable def C4 : Ctx := addRun C3 200 [20]
theorem hP4 : PrimOK C4 := addRun_ok hP3 hm0 200 _
noncomputable def C5 : Ctx := addRun C4 200 [33, 46, 35, 258, 259, 261, 262, 264, 265]
theorem hP5 : PrimOK C5 := addRun_ok hP4 hm0 200 _
end Go.Ev

namespace Go.Ev
open Go Go.RowKit Go.Proofs
def dnil : DV := .v (.slice none 0 0)
def node0 : List DV := [db false, db false, du 0, di (-1), di (-1), di (-1)]
def queue0 : List DV := [di (-1), .sl 6 false [node0, node0], di (-1), du 0, du 9, di 0, .sl 1 false [[di 0], [di 0]]]
def list0 : List DV := [di (-1), .sl 1 false [[di (-2)], [di (-2)]]]
def W0 : PV := .agg [.sl 1 false [[du 0], [du 0]], .sl 3 false [[di 0, du 0, di 0], [di 0, du 0, di 0]], .sl 7 false [queue0, queue0], .sl 2 false [list0, list0], .sl 1 false [[dnil], [dnil]], .sl 1 false [[di (-1)], [di (-1)], [di (-1)]]]
theorem new_W0 : runSpec C3 200 20 [pint 2, pint 2, pu 9] = some [W0, pint 0] := by kernel_rfl
def call1 : PV := .agg [di 1, di 0, di 0, di 0, di 0, di 0, du 2]
def X0 : PV := .agg [.sl 1 false [[du 67108873], [du 0]], .sl 3 false [[di 0, du 2, di 0], [di 0, du 0, di 0]], .sl 7 false [queue0, queue0], .sl 2 false [list0, list0], .sl 1 false [[dnil], [dnil]], .sl 1 false [[di (-1)], [di (-1)], [di (-1)]]]
end Go.Ev

namespace Go.Ev
open Go Go.RowKit Go.Proofs

/-- what is known at some arguments alone -/
noncomputable def atSpec : List (List PV × List PV) → Spec
  | [], _ => none
  | (p, r) :: l, ps => open Classical in if ps = p then some r else atSpec l ps
theorem atSpec_hd (p r : List PV) (l : List (List PV × List PV)) : atSpec ((p, r) :: l) p = some r := by simp [atSpec]
theorem atSpec_tl {p r ps rs : List PV} {l : List (List PV × List PV)} (h : ps ≠ p) (h2 : atSpec l ps = some rs) : atSpec ((p, r) :: l) ps = some rs := by simp [atSpec, h, h2]
theorem atSpec_mem {l : List (List PV × List PV)} {ps rs : List PV} (h : atSpec l ps = some rs) : (ps, rs) ∈ l := by
  induction l with
  | nil => simp [atSpec] at h
  | cons x l ih =>
    obtain ⟨p, r⟩ := x
    simp only [atSpec] at h
    split at h
    · rename_i e
      simp only [Option.some.injEq] at h
      subst e; subst h
      exact List.mem_cons_self ..
    · exact List.mem_cons_of_mem _ (ih h)
theorem sat_at {C : Ctx} (hP : PrimOK C) (hm : C.P.follows .mixedOrders = true) {g : FuncId} {l : List (List PV × List PV)}
    (h : ∀ p ∈ l, ∃ a h1 h2, Ev C noO (.call g (p.1.map ofPV) {}) (.val a h1) ∧ resA h1 a = some (p.2, h2)) : Sat C g (atSpec l) :=
  sat_of_ev (O := noO) hP (fun _ _ h => h.elim) hm fun ps rs hs => h _ (atSpec_mem hs)

theorem right_W0 : runSpec C4 200 33 [W0] = some [pbool true] := by kernel_rfl
theorem rright_W0 : runSpec C4 200 46 [W0] = some [pbool true] := by kernel_rfl
theorem right_X0 : runSpec C4 200 33 [X0] = some [pbool true] := by kernel_rfl

def M0 : PV := .agg [.sl 7 false [[di 0, di 0, di 0, di 0, du 0, du 0, di 0], [di 0, di 0, di 0, di 0, du 0, du 0, di 0]], .sl 1 false [[du 9], [du 9]], .sl 1 false [[dnil], [dnil]]]
def M1 : PV := .agg [.sl 7 false [[di 1, di 1, di 1, di 0, du 2, du 0, di 0], [di 0, di 0, di 0, di 0, du 0, du 0, di 0]], .sl 1 false [[du 9], [du 9]], .sl 1 false [[dnil], [dnil]]]
theorem model_W0 : symV C5 noO 200 14 [W0] [(site 14 11, .prim [pbool true])] = some ([M0, pint 0], [], [runSpec C4 200 33 [W0] = some [pbool true]]) := by kernel_rfl
theorem model_X0 : symV C5 noO 200 14 [X0] [(site 14 11, .prim [pbool true])] = some ([M1, pint 0], [], [runSpec C4 200 33 [X0] = some [pbool true]]) := by kernel_rfl
def ans1 : PV := .agg [di 0, di 0, di 0, di 1]
theorem do_W0 : symV C5 noO 200 21 [W0, call1, pint 2, pint (-1)] [(site 21 20, .prim [pbool true])] = some ([X0, ans1, pint 0, pint (-1), pint (-1)], [], [runSpec C4 200 46 [W0] = some [pbool true]]) := by kernel_rfl
theorem where_X0 : symV C5 noO 200 16 [X0, pint 0] [(site 39 7, .prim [pbool true])] = some ([nilPV, pint 0], [], [runSpec C4 200 33 [X0] = some [pbool true]]) := by kernel_rfl
theorem where_X2 : symV C5 noO 200 16 [X0, pint 2] [(site 39 7, .prim [pbool true])] = some ([nilPV, pint 1], [], [runSpec C4 200 33 [X0] = some [pbool true]]) := by kernel_rfl
theorem pending_X0 : symV C5 noO 200 18 [X0, pint 0] [(site 39 7, .prim [pbool true])] = some ([pbool false, pint 0], [], [runSpec C4 200 33 [X0] = some [pbool true]]) := by kernel_rfl
def kinds1 : PV := .agg [di 1, di 1, di 0, di 0, di 0, di 0]
theorem kinds_M1 : symV C5 noO 200 12 [M1] [] = some ([kinds1], [], []) := by kernel_rfl
end Go.Ev

namespace Go.Ev
open Go Go.RowKit Go.Proofs

noncomputable def modelAt : Spec := atSpec [([W0], [M0, pint 0]), ([X0], [M1, pint 0])]
noncomputable def doAt : Spec := atSpec [([W0, call1, pint 2, pint (-1)], [X0, ans1, pint 0, pint (-1), pint (-1)])]
noncomputable def whereAt : Spec := atSpec [([X0, pint 0], [nilPV, pint 0]), ([X0, pint 2], [nilPV, pint 1])]
noncomputable def pendingAt : Spec := atSpec [([X0, pint 0], [pbool false, pint 0])]
noncomputable def kindsAt : Spec := atSpec [([M1], [kinds1])]
theorem modelAt_sat : Sat C5 14 modelAt := sat_at hP5 hm0 fun p hp => by
  simp only [List.mem_cons, List.not_mem_nil, or_false] at hp
  rcases hp with rfl | rfl
  · exact symV_ev model_W0 (AllP_cons right_W0 AllP_nil)
  · exact symV_ev model_X0 (AllP_cons right_X0 AllP_nil)
theorem doAt_sat : Sat C5 21 doAt := sat_at hP5 hm0 fun p hp => by
  simp only [List.mem_cons, List.not_mem_nil, or_false] at hp
  subst hp
  exact symV_ev do_W0 (AllP_cons rright_W0 AllP_nil)
theorem whereAt_sat : Sat C5 16 whereAt := sat_at hP5 hm0 fun p hp => by
  simp only [List.mem_cons, List.not_mem_nil, or_false] at hp
  rcases hp with rfl | rfl
  · exact symV_ev where_X0 (AllP_cons right_X0 AllP_nil)
  · exact symV_ev where_X2 (AllP_cons right_X0 AllP_nil)
theorem pendingAt_sat : Sat C5 18 pendingAt := sat_at hP5 hm0 fun p hp => by
  simp only [List.mem_cons, List.not_mem_nil, or_false] at hp
  subst hp
  exact symV_ev pending_X0 (AllP_cons right_X0 AllP_nil)
theorem kindsAt_sat : Sat C5 12 kindsAt := sat_at hP5 hm0 fun p hp => by
  simp only [List.mem_cons, List.not_mem_nil, or_false] at hp
  subst hp
  exact symV_ev kinds_M1 AllP_nil
noncomputable def C6 : Ctx := addSpec (addSpec (addSpec (addSpec (addSpec C5 14 modelAt) 21 doAt) 16 whereAt) 18 pendingAt) 12 kindsAt
theorem hP6 : PrimOK C6 := addSpec_ok (addSpec_ok (addSpec_ok (addSpec_ok (addSpec_ok hP5 modelAt_sat (by kernel_rfl)) (doAt_sat.ctx rfl rfl) (by kernel_rfl)) (whereAt_sat.ctx rfl rfl) (by kernel_rfl)) (pendingAt_sat.ctx rfl rfl) (by kernel_rfl)) (kindsAt_sat.ctx rfl rfl) (by kernel_rfl)
theorem awake_run : symV C6 noO 200 9 [] [(site 9 19, Dec.prim [W0, pint 0]), (site 9 24, .prim [M0, pint 0]), (site 9 30, .prim [X0, ans1, pint 0, pint (-1), pint (-1)]), (site 9 38, .prim [M1, pint 0]), (site 9 43, .prim [nilPV, pint 0]), (site 9 48, .prim [nilPV, pint 1]), (site 9 53, .prim [pbool false, pint 0]), (site 9 116, .prim [kinds1])] =
    some ([pbool true], [], [runSpec C3 200 20 [pint 2, pint 2, pu 9] = some [W0, pint 0], modelAt [W0] = some [M0, pint 0], doAt [W0, call1, pint 2, pint (-1)] = some [X0, ans1, pint 0, pint (-1), pint (-1)], modelAt [X0] = some [M1, pint 0],
      whereAt [X0, pint 0] = some [nilPV, pint 0], whereAt [X0, pint 2] = some [nilPV, pint 1], pendingAt [X0, pint 0] = some [pbool false, pint 0], kindsAt [M1] = some [kinds1]]) := by kernel_rfl
theorem W0_X0 : ([X0] : List PV) ≠ [W0] := by
  intro h
  simp only [X0, W0, List.cons.injEq, PV.agg.injEq, DV.sl.injEq, du, DV.v.injEq, Value.int.injEq] at h
  omega
def awakeSpec : Spec
  | [] => some [pbool true]
  | _ => none
theorem awake_sat : Sat C0 9 awakeSpec := by
  refine Sat.ctx (C := C6) rfl rfl (sat_of_ev (O := noO) hP6 (fun _ _ h => h.elim) hm0 fun ps rs hs => ?_)
  unfold awakeSpec at hs
  split at hs
  · simp only [Option.some.injEq] at hs
    subst hs
    refine symV_ev awake_run (AllP_cons new_W0 (AllP_cons (atSpec_hd _ _ _) (AllP_cons (atSpec_hd _ _ _) (AllP_cons (atSpec_tl W0_X0 (atSpec_hd _ _ _)) (AllP_cons (atSpec_hd _ _ _) (AllP_cons (atSpec_tl ?_ (atSpec_hd _ _ _)) (AllP_cons (atSpec_hd _ _ _) (AllP_cons (atSpec_hd _ _ _) AllP_nil))))))))
    intro h
    simp [pint] at h
  · cases hs
end Go.Ev
