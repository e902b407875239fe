/- What the proof of this claim needs: part MJ. No conditions. -/
import Derived.Test.YtgpdnahmgacffaaMI
import Derived.Test.YtgpdnahmgacffaaMH
set_option linter.unusedVariables false
set_option linter.unusedSimpArgs false

namespace Go.Ev
open Go Go.RowKit Go.Proofs

theorem f6_7 (fr : Nat → Fr) (es : List (Value × Bool × List DV)) (l : List (Int × Int)) (many : Int) {oa : AV} (ho : OutOK oa) (tk : List (Nat × Nat)) (brk : Bool) : ((hO 7 8 8 7 fr es l many oa tk brk).objs.all fun e => e.2.2.all (objFreeT [(site 48 6, 7)])) = true := by
  rcases ho with rfl | ⟨_, _, rfl⟩ <;> kernel_rfl
theorem f5_7 (fr : Nat → Fr) (es : List (Value × Bool × List DV)) (l : List (Int × Int)) (many : Int) {oa : AV} (ho : OutOK oa) (tk : List (Nat × Nat)) (brk : Bool) : ((hO 7 8 8 7 fr es l many oa tk brk).objs.all fun e => e.2.2.all (objFreeT [(site 40 3, 8), (site 40 4, 8), (site 40 5, 8), (site 48 6, 7), (loopSite 48, 7)])) = true := by
  rcases ho with rfl | ⟨_, _, rfl⟩ <;> kernel_rfl
theorem q0_7 (fr : Nat → Fr) (es : List (Value × Bool × List DV)) (l : List (Int × Int)) (many : Int) (oa : AV) (tk : List (Nat × Nat)) (i : Int) (h1 : decide (i < ((l.length : Nat) : Int)) = false) :
    Ev C9 noO (.code 48 false (loopOf Try.prog 48 0) { σ := fS l i 7, h := (hO 7 8 8 7 fr es l many oa tk false) }) (.code (.exit 0) { σ := slots 47 [], h := (hO 7 8 8 7 fr es l many oa tk false) }) :=
  symM_ev (n := 60) (sc := [(site 48 23, Dec.b false)]) (keep := []) (sc' := []) (by kernel_rfl) (AllP_cons h1 AllP_nil)
theorem q1_7 (fr : Nat → Fr) (es : List (Value × Bool × List DV)) (l : List (Int × Int)) (many : Int) (oa : AV) (ho : OutOK oa) (tk : List (Nat × Nat)) (i i1 : Int) (c : Int × Int) (x : X) (s : St) (h1 : decide (i < ((l.length : Nat) : Int)) = true) (h2 : 0 ≤ i ∧ (rowsP l)[i.toNat]? = some (rowC c)) (h3 : containsSpec [ordP fr 7, .agg (rowC c)] = some [pbool true]) (h4 : wr64 (i + 1) = i1)
    (h5 : Ev C9 noO (.code 48 false (loopOf Try.prog 48 0) { σ := fS l i1 7, h := (hO 7 8 8 7 fr es l many oa tk false) }) (.code x s)) : Ev C9 noO (.code 48 false (loopOf Try.prog 48 0) { σ := fS l i 7, h := (hO 7 8 8 7 fr es l many oa tk false) }) (.code x s) :=
  sym_ev 60 _ [(site 48 23, Dec.b true), (site 48 24, Dec.row (rowC c)), (site 48 28, Dec.prim [pbool true]), (site 48 46, Dec.int i1), (site 48 8002, Dec.trunc [(site 48 6, 7)] [1, 2, 3, 4, 20, 21, 22]), (site 48 8001, Dec.loop [1, 2, 3, 4, 20, 21, 22] x s)] _ [] _ (by kernel_rfl) (AllP_cons h1 (AllP_cons h2 (AllP_cons h3 (AllP_cons h4 (AllP_cons (rfl : true = true) (AllP_cons (f6_7 fr es l many ho tk false) (AllP_cons (rfl : true = true) (AllP_cons h5 AllP_nil))))))))
theorem q2_7 (fr : Nat → Fr) (es : List (Value × Bool × List DV)) (l : List (Int × Int)) (many : Int) (oa : AV) (ho : OutOK oa) (tk : List (Nat × Nat)) (i i1 : Int) (c : Int × Int) (x : X) (s : St) (h1 : decide (i < ((l.length : Nat) : Int)) = true) (h2 : 0 ≤ i ∧ (rowsP l)[i.toNat]? = some (rowC c)) (h3 : containsSpec [ordP fr 7, .agg (rowC c)] = some [pbool false])
    (hc : Ev C9 noO (.call 52 [lA l, blkF 7] (hO 7 8 8 8 (updC fr 7 c i) es l many oa tk false)) (.val (vb true) (hO 7 8 8 8 (updC fr 7 c i) es l many oa tk false))) (h4 : wr64 (i + 1) = i1)
    (h5 : Ev C9 noO (.code 48 false (loopOf Try.prog 48 0) { σ := fS l i1 7, h := (hO 7 8 8 7 fr es l many oa tk false) }) (.code x s)) : Ev C9 noO (.code 48 false (loopOf Try.prog 48 0) { σ := fS l i 7, h := (hO 7 8 8 7 fr es l many oa tk false) }) (.code x s) :=
  sym_ev 60 _ [(site 48 23, Dec.b true), (site 48 24, Dec.row (rowC c)), (site 48 28, Dec.prim [pbool false]), (site 48 32, Dec.call (vb true) (hO 7 8 8 8 (updC fr 7 c i) es l many oa tk false)), (site 48 46, Dec.int i1), (site 48 8002, Dec.trunc [(site 48 6, 7)] [1, 2, 3, 4, 20, 21, 22]), (site 48 8001, Dec.loop [1, 2, 3, 4, 20, 21, 22] x s)] _ [] _ (by kernel_rfl) (AllP_cons h1 (AllP_cons h2 (AllP_cons h3 (AllP_cons hc (AllP_cons h4 (AllP_cons (rfl : true = true) (AllP_cons (f6_7 fr es l many ho tk false) (AllP_cons (rfl : true = true) (AllP_cons h5 AllP_nil)))))))))
theorem f1_7 (fr : Nat → Fr) (es : List (Value × Bool × List DV)) (l : List (Int × Int)) (many : Int) {oa : AV} (ho : OutOK oa) (tk : List (Nat × Nat)) : ((hO 7 8 8 8 fr es l many oa tk false).objs.all fun e => e.2.2.all (objFreeT [(site 51 4, 0)])) = true := by
  rcases ho with rfl | ⟨_, _, rfl⟩ <;> kernel_rfl
theorem r0_7 (fr : Nat → Fr) (es : List (Value × Bool × List DV)) (l : List (Int × Int)) (many : Int) (oa : AV) (tk : List (Nat × Nat)) (i : Int) (h1 : decide (i < ((l.length : Nat) : Int)) = false) :
    Ev C9 noO (.code 66 false (loopOf Try.prog 66 0) { σ := slots 19 [(0, lA l), (1, blkF 7), (7, vi ((l.length : Nat) : Int)), (8, vi i)], h := (hO 7 8 8 8 fr es l many oa tk false) }) (.code (.exit 0) { σ := slots 19 [], h := (hO 7 8 8 8 fr es l many oa tk false) }) :=
  symM_ev (n := 60) (sc := [(site 66 9, Dec.b false)]) (keep := []) (sc' := []) (by kernel_rfl) (AllP_cons h1 AllP_nil)
theorem r1_7 (fr : Nat → Fr) (es : List (Value × Bool × List DV)) (l : List (Int × Int)) (many : Int) (oa : AV) (tk : List (Nat × Nat)) (i i1 : Int) (y : Int × Int) (ho : OutOK oa) (x : X) (s : St) (h1 : decide (i < ((l.length : Nat) : Int)) = true) (h2 : 0 ≤ i ∧ (rowsP l)[i.toNat]? = some (rowC y)) (h3 : containsSpec [ordP fr 7, .agg (rowC y)] = some [pbool true]) (h4 : wr64 (i + 1) = i1)
    (h5 : Ev C9 noO (.code 66 false (loopOf Try.prog 66 0) { σ := slots 19 [(0, lA l), (1, blkF 7), (7, vi ((l.length : Nat) : Int)), (8, vi i1)], h := (hO 7 8 8 8 fr es l many oa tk false) }) (.code x s)) : Ev C9 noO (.code 66 false (loopOf Try.prog 66 0) { σ := slots 19 [(0, lA l), (1, blkF 7), (7, vi ((l.length : Nat) : Int)), (8, vi i)], h := (hO 7 8 8 8 fr es l many oa tk false) }) (.code x s) :=
  sym_ev 60 _ [(site 66 9, Dec.b true), (site 66 14, Dec.row (rowC y)), (site 51 8, Dec.prim [pbool true]), (site 66 18, Dec.int i1), (site 66 8002, Dec.trunc [(site 51 4, 0)] [0, 1, 7, 8]), (site 66 8001, Dec.loop [0, 1, 7, 8] x s)] _ [] _ (by kernel_rfl) (AllP_cons h1 (AllP_cons h2 (AllP_cons h3 (AllP_cons h4 (AllP_cons (rfl : true = true) (AllP_cons (f1_7 fr es l many ho tk) (AllP_cons (rfl : true = true) (AllP_cons h5 AllP_nil))))))))
theorem r2_7 (fr : Nat → Fr) (es : List (Value × Bool × List DV)) (l : List (Int × Int)) (many : Int) (oa : AV) (tk : List (Nat × Nat)) (i i1 : Int) (y : Int × Int) (ho : OutOK oa) (x : X) (s : St) (h1 : decide (i < ((l.length : Nat) : Int)) = true) (h2 : 0 ≤ i ∧ (rowsP l)[i.toNat]? = some (rowC y)) (h3 : containsSpec [ordP fr 7, .agg (rowC y)] = some [pbool false]) (u v : Int × Int) (h4 : lookupIn C9 59 es (.agg [vi y.1, vi y.2]) false = some (.agg [vi u.1, vi u.2])) (h5 : lookupIn C9 59 es (.agg [vi (fr 7).c.1, vi (fr 7).c.2]) false = some (.agg [vi v.1, vi v.2])) (h6 : aheadSpec [.agg (rowC u), .agg (rowC v)] = some [pbool false]) (h7 : wr64 (i + 1) = i1)
    (h8 : Ev C9 noO (.code 66 false (loopOf Try.prog 66 0) { σ := slots 19 [(0, lA l), (1, blkF 7), (7, vi ((l.length : Nat) : Int)), (8, vi i1)], h := (hO 7 8 8 8 fr es l many oa tk false) }) (.code x s)) : Ev C9 noO (.code 66 false (loopOf Try.prog 66 0) { σ := slots 19 [(0, lA l), (1, blkF 7), (7, vi ((l.length : Nat) : Int)), (8, vi i)], h := (hO 7 8 8 8 fr es l many oa tk false) }) (.code x s) :=
  sym_ev 60 _ [(site 66 9, Dec.b true), (site 66 14, Dec.row (rowC y)), (site 51 8, Dec.prim [pbool false]), (site 51 13, Dec.look (.agg [vi u.1, vi u.2])), (site 51 16, Dec.look (.agg [vi v.1, vi v.2])), (site 51 17, Dec.prim [pbool false]), (site 66 18, Dec.int i1), (site 66 8002, Dec.trunc [(site 51 4, 0)] [0, 1, 7, 8]), (site 66 8001, Dec.loop [0, 1, 7, 8] x s)] _ [] _ (by kernel_rfl) (AllP_cons h1 (AllP_cons h2 (AllP_cons h3 (AllP_cons h4 (AllP_cons h5 (AllP_cons h6 (AllP_cons h7 (AllP_cons (rfl : true = true) (AllP_cons (f1_7 fr es l many ho tk) (AllP_cons (rfl : true = true) (AllP_cons h8 AllP_nil)))))))))))
theorem r3_7 (fr : Nat → Fr) (es : List (Value × Bool × List DV)) (l : List (Int × Int)) (many : Int) (oa : AV) (tk : List (Nat × Nat)) (i i1 : Int) (y : Int × Int) (ho : OutOK oa) (h1 : decide (i < ((l.length : Nat) : Int)) = true) (h2 : 0 ≤ i ∧ (rowsP l)[i.toNat]? = some (rowC y)) (h3 : containsSpec [ordP fr 7, .agg (rowC y)] = some [pbool false]) (u v : Int × Int) (h4 : lookupIn C9 59 es (.agg [vi y.1, vi y.2]) false = some (.agg [vi u.1, vi u.2])) (h5 : lookupIn C9 59 es (.agg [vi (fr 7).c.1, vi (fr 7).c.2]) false = some (.agg [vi v.1, vi v.2])) (h6 : aheadSpec [.agg (rowC u), .agg (rowC v)] = some [pbool true]) :
    Ev C9 noO (.code 66 false (loopOf Try.prog 66 0) { σ := slots 19 [(0, lA l), (1, blkF 7), (7, vi ((l.length : Nat) : Int)), (8, vi i)], h := (hO 7 8 8 8 fr es l many oa tk false) }) (.code .ret { σ := slots 19 [(4, vi i)], h := (hO 7 8 8 8 fr es l many oa tk false) }) :=
  symT_ev (n := 60) (sc := [(site 66 9, Dec.b true), (site 66 14, Dec.row (rowC y)), (site 51 8, Dec.prim [pbool false]), (site 51 13, Dec.look (.agg [vi u.1, vi u.2])), (site 51 16, Dec.look (.agg [vi v.1, vi v.2])), (site 51 17, Dec.prim [pbool true])]) (keep := [4]) (L := [(site 51 4, 0)]) (sc' := []) (by kernel_rfl) (AllP_cons h1 (AllP_cons h2 (AllP_cons h3 (AllP_cons h4 (AllP_cons h5 (AllP_cons h6 (AllP_cons (rfl : true = true) (AllP_cons (f1_7 fr es l many ho tk) (AllP_cons (rfl : true = true) AllP_nil)))))))))
theorem cf_n_7 (fr : Nat → Fr) (es : List (Value × Bool × List DV)) (l : List (Int × Int)) (many : Int) (oa : AV) (tk : List (Nat × Nat)) (h1 : ((rowsP l).length : Int) = ((l.length : Nat) : Int)) (h : Ev C9 noO (.code 66 false (loopOf Try.prog 66 0) { σ := slots 19 [(0, lA l), (1, blkF 7), (7, vi ((l.length : Nat) : Int)), (8, vi 0)], h := (hO 7 8 8 8 fr es l many oa tk false) }) (.code (.exit 0) { σ := slots 19 [], h := (hO 7 8 8 8 fr es l many oa tk false) })) :
    Ev C9 noO (.call 52 [lA l, blkF 7] (hO 7 8 8 8 fr es l many oa tk false)) (.val (vb false) (hO 7 8 8 8 fr es l many oa tk false)) :=
  sym_ev 60 _ [(site 66 7, Dec.int ((l.length : Nat) : Int)), (site 66 8001, Dec.loop [0, 1, 7, 8] (.exit 0) { σ := slots 19 [], h := (hO 7 8 8 8 fr es l many oa tk false) })] _ [] _ (by kernel_rfl) (AllP_cons h1 (AllP_cons h AllP_nil))
theorem cf_y_7 (fr : Nat → Fr) (es : List (Value × Bool × List DV)) (l : List (Int × Int)) (many : Int) (oa : AV) (tk : List (Nat × Nat)) (i : Int) (h1 : ((rowsP l).length : Int) = ((l.length : Nat) : Int)) (h : Ev C9 noO (.code 66 false (loopOf Try.prog 66 0) { σ := slots 19 [(0, lA l), (1, blkF 7), (7, vi ((l.length : Nat) : Int)), (8, vi 0)], h := (hO 7 8 8 8 fr es l many oa tk false) }) (.code .ret { σ := slots 19 [(4, vi i)], h := (hO 7 8 8 8 fr es l many oa tk false) })) (h0 : decide (i ≥ 0) = true) :
    Ev C9 noO (.call 52 [lA l, blkF 7] (hO 7 8 8 8 fr es l many oa tk false)) (.val (vb true) (hO 7 8 8 8 fr es l many oa tk false)) :=
  sym_ev 60 _ [(site 66 7, Dec.int ((l.length : Nat) : Int)), (site 66 8001, Dec.loop [0, 1, 7, 8] .ret { σ := slots 19 [(4, vi i)], h := (hO 7 8 8 8 fr es l many oa tk false) }), (site 52 8, Dec.b true)] _ [] _ (by kernel_rfl) (AllP_cons h1 (AllP_cons h (AllP_cons h0 AllP_nil)))
theorem f4_7 (fr : Nat → Fr) (es : List (Value × Bool × List DV)) (l : List (Int × Int)) (many : Int) {oa : AV} (ho : OutOK oa) (tk : List (Nat × Nat)) (brk : Bool) : ((hO 7 8 7 7 fr es l many oa tk brk).objs.all fun e => e.2.2.all (objFreeT [(site 48 4, 7)])) = true := by
  rcases ho with rfl | ⟨_, _, rfl⟩ <;> kernel_rfl
theorem pne_7 (fr : Nat → Fr) (es : List (Value × Bool × List DV)) (l : List (Int × Int)) (many : Int) (oa : AV) (tk : List (Nat × Nat)) (k : Int) (hf : fitsSpec [.one (.mp es), ordP fr 7] = some [pint k]) (h0 : (k == 0) = false) (oa1 : AV) (ho1 : OutOK oa1) (tk1 : List (Nat × Nat)) (h21 : ((rowsP l).length : Int) = ((l.length : Nat) : Int))
    (hl : Ev C9 noO (.code 48 false (loopOf Try.prog 48 0) { σ := fS l 0 7, h := (hO 7 8 8 7 fr es l many oa tk false) }) (.code (.exit 0) { σ := slots 47 [], h := (hO 7 8 8 7 fr es l many oa1 tk1 false) })) : Ev C9 noO (.call 48 (args48 7) (hO 7 8 7 7 fr es l many oa tk false)) (.val unitA (hO 7 8 7 7 fr es l many oa1 tk1 false)) :=
  symCT_ev (n := 200) (sc := [(site 48 11, Dec.prim [pint k]), (site 48 12, Dec.b false), (site 48 21, Dec.int ((l.length : Nat) : Int)), (site 48 8001, Dec.loop [1, 2, 3, 4, 20, 21, 22] (.exit 0) { σ := slots 47 [], h := (hO 7 8 8 7 fr es l many oa1 tk1 false) })]) (keep := []) (L := [(site 48 4, 7)]) (sc' := []) (by kernel_rfl) (AllP_cons hf (AllP_cons h0 (AllP_cons h21 (AllP_cons hl (AllP_cons (rfl : true = true) (AllP_cons (f4_7 fr es l many ho1 tk1 false) (AllP_cons (rfl : true = true) AllP_nil)))))))
theorem pnr_7 (fr : Nat → Fr) (es : List (Value × Bool × List DV)) (l : List (Int × Int)) (many : Int) (oa : AV) (tk : List (Nat × Nat)) (k : Int) (hf : fitsSpec [.one (.mp es), ordP fr 7] = some [pint k]) (h0 : (k == 0) = false) (oa1 : AV) (ho1 : OutOK oa1) (tk1 : List (Nat × Nat)) (h21 : ((rowsP l).length : Int) = ((l.length : Nat) : Int))
    (hl : Ev C9 noO (.code 48 false (loopOf Try.prog 48 0) { σ := fS l 0 7, h := (hO 7 8 8 7 fr es l many oa tk false) }) (.code .ret { σ := slots 47 [], h := (hO 7 8 8 7 fr es l many oa1 tk1 true) })) : Ev C9 noO (.call 48 (args48 7) (hO 7 8 7 7 fr es l many oa tk false)) (.val unitA (hO 7 8 7 7 fr es l many oa1 tk1 true)) :=
  symCT_ev (n := 200) (sc := [(site 48 11, Dec.prim [pint k]), (site 48 12, Dec.b false), (site 48 21, Dec.int ((l.length : Nat) : Int)), (site 48 8001, Dec.loop [1, 2, 3, 4, 20, 21, 22] .ret { σ := slots 47 [], h := (hO 7 8 8 7 fr es l many oa1 tk1 true) })]) (keep := []) (L := [(site 48 4, 7)]) (sc' := []) (by kernel_rfl) (AllP_cons hf (AllP_cons h0 (AllP_cons h21 (AllP_cons hl (AllP_cons (rfl : true = true) (AllP_cons (f4_7 fr es l many ho1 tk1 true) (AllP_cons (rfl : true = true) AllP_nil)))))))
theorem py0e_7 (fr : Nat → Fr) (es : List (Value × Bool × List DV)) (l : List (Int × Int)) (many : Int) (hf : fitsSpec [.one (.mp es), ordP fr 7] = some [pint 0]) (hcl : cloneSpec [ordP fr 7] = some [ordP fr 7]) (h52 : ((0 : Int) == many) = false) (oa1 : AV) (ho1 : OutOK oa1) (tk1 : List (Nat × Nat)) (h21 : ((rowsP l).length : Int) = ((l.length : Nat) : Int))
    (hl : Ev C9 noO (.code 48 false (loopOf Try.prog 48 0) { σ := fS l 0 7, h := (hO 7 8 8 7 fr es l many (.st 1 [[(.sl 2 false (fr 7).r)]] (site 24 56) 1) [(site 24 56, 1)] false) }) (.code (.exit 0) { σ := slots 47 [], h := (hO 7 8 8 7 fr es l many oa1 tk1 false) })) : Ev C9 noO (.call 48 (args48 7) (hO 7 8 7 7 fr es l many (.d (.v (.slice none 0 0))) [] false)) (.val unitA (hO 7 8 7 7 fr es l many oa1 tk1 false)) :=
  symCT_ev (n := 200) (sc := [(site 48 11, Dec.prim [pint 0]), (site 48 16, Dec.prim [ordP fr 7]), (site 24 52, Dec.b false), (site 48 21, Dec.int ((l.length : Nat) : Int)), (site 48 8001, Dec.loop [1, 2, 3, 4, 20, 21, 22] (.exit 0) { σ := slots 47 [], h := (hO 7 8 8 7 fr es l many oa1 tk1 false) })]) (keep := []) (L := [(site 48 4, 7)]) (sc' := []) (by kernel_rfl) (AllP_cons hf (AllP_cons hcl (AllP_cons h52 (AllP_cons h21 (AllP_cons hl (AllP_cons (rfl : true = true) (AllP_cons (f4_7 fr es l many ho1 tk1 false) (AllP_cons (rfl : true = true) AllP_nil))))))))
theorem py0r_7 (fr : Nat → Fr) (es : List (Value × Bool × List DV)) (l : List (Int × Int)) (many : Int) (hf : fitsSpec [.one (.mp es), ordP fr 7] = some [pint 0]) (hcl : cloneSpec [ordP fr 7] = some [ordP fr 7]) (h52 : ((0 : Int) == many) = false) (oa1 : AV) (ho1 : OutOK oa1) (tk1 : List (Nat × Nat)) (h21 : ((rowsP l).length : Int) = ((l.length : Nat) : Int))
    (hl : Ev C9 noO (.code 48 false (loopOf Try.prog 48 0) { σ := fS l 0 7, h := (hO 7 8 8 7 fr es l many (.st 1 [[(.sl 2 false (fr 7).r)]] (site 24 56) 1) [(site 24 56, 1)] false) }) (.code .ret { σ := slots 47 [], h := (hO 7 8 8 7 fr es l many oa1 tk1 true) })) : Ev C9 noO (.call 48 (args48 7) (hO 7 8 7 7 fr es l many (.d (.v (.slice none 0 0))) [] false)) (.val unitA (hO 7 8 7 7 fr es l many oa1 tk1 true)) :=
  symCT_ev (n := 200) (sc := [(site 48 11, Dec.prim [pint 0]), (site 48 16, Dec.prim [ordP fr 7]), (site 24 52, Dec.b false), (site 48 21, Dec.int ((l.length : Nat) : Int)), (site 48 8001, Dec.loop [1, 2, 3, 4, 20, 21, 22] .ret { σ := slots 47 [], h := (hO 7 8 8 7 fr es l many oa1 tk1 true) })]) (keep := []) (L := [(site 48 4, 7)]) (sc' := []) (by kernel_rfl) (AllP_cons hf (AllP_cons hcl (AllP_cons h52 (AllP_cons h21 (AllP_cons hl (AllP_cons (rfl : true = true) (AllP_cons (f4_7 fr es l many ho1 tk1 true) (AllP_cons (rfl : true = true) AllP_nil))))))))
theorem py1e_7 (fr : Nat → Fr) (es : List (Value × Bool × List DV)) (l : List (Int × Int)) (many : Int) (rows : List (List DV)) (g : Nat) (n : Int) (hf : fitsSpec [.one (.mp es), ordP fr 7] = some [pint 0]) (hcl : cloneSpec [ordP fr 7] = some [ordP fr 7]) (hn : (rows.length : Int) = n) (h52 : (n == many) = false) (hfp : false = false ∧ g = g ∧ fitsP rows.length 1 24) (oa1 : AV) (ho1 : OutOK oa1) (tk1 : List (Nat × Nat)) (h21 : ((rowsP l).length : Int) = ((l.length : Nat) : Int))
    (hl : Ev C9 noO (.code 48 false (loopOf Try.prog 48 0) { σ := fS l 0 7, h := (hO 7 8 8 7 fr es l many (.st 1 (rows ++ [[(.sl 2 false (fr 7).r)]]) (site 24 56) (g + 1 + 1)) [(site 24 56, g + 1 + 1)] false) }) (.code (.exit 0) { σ := slots 47 [], h := (hO 7 8 8 7 fr es l many oa1 tk1 false) })) : Ev C9 noO (.call 48 (args48 7) (hO 7 8 7 7 fr es l many (.st 1 rows (site 24 56) g) [(site 24 56, g)] false)) (.val unitA (hO 7 8 7 7 fr es l many oa1 tk1 false)) :=
  symCT_ev (n := 200) (sc := [(site 48 11, Dec.prim [pint 0]), (site 48 16, Dec.prim [ordP fr 7]), (site 24 50, Dec.int n), (site 24 52, Dec.b false), (site 24 56, Dec.app false), (site 48 21, Dec.int ((l.length : Nat) : Int)), (site 48 8001, Dec.loop [1, 2, 3, 4, 20, 21, 22] (.exit 0) { σ := slots 47 [], h := (hO 7 8 8 7 fr es l many oa1 tk1 false) })]) (keep := []) (L := [(site 48 4, 7)]) (sc' := []) (by kernel_rfl) (AllP_cons hf (AllP_cons hcl (AllP_cons hn (AllP_cons h52 (AllP_cons hfp (AllP_cons h21 (AllP_cons hl (AllP_cons (rfl : true = true) (AllP_cons (f4_7 fr es l many ho1 tk1 false) (AllP_cons (rfl : true = true) AllP_nil))))))))))
theorem py1r_7 (fr : Nat → Fr) (es : List (Value × Bool × List DV)) (l : List (Int × Int)) (many : Int) (rows : List (List DV)) (g : Nat) (n : Int) (hf : fitsSpec [.one (.mp es), ordP fr 7] = some [pint 0]) (hcl : cloneSpec [ordP fr 7] = some [ordP fr 7]) (hn : (rows.length : Int) = n) (h52 : (n == many) = false) (hfp : false = false ∧ g = g ∧ fitsP rows.length 1 24) (oa1 : AV) (ho1 : OutOK oa1) (tk1 : List (Nat × Nat)) (h21 : ((rowsP l).length : Int) = ((l.length : Nat) : Int))
    (hl : Ev C9 noO (.code 48 false (loopOf Try.prog 48 0) { σ := fS l 0 7, h := (hO 7 8 8 7 fr es l many (.st 1 (rows ++ [[(.sl 2 false (fr 7).r)]]) (site 24 56) (g + 1 + 1)) [(site 24 56, g + 1 + 1)] false) }) (.code .ret { σ := slots 47 [], h := (hO 7 8 8 7 fr es l many oa1 tk1 true) })) : Ev C9 noO (.call 48 (args48 7) (hO 7 8 7 7 fr es l many (.st 1 rows (site 24 56) g) [(site 24 56, g)] false)) (.val unitA (hO 7 8 7 7 fr es l many oa1 tk1 true)) :=
  symCT_ev (n := 200) (sc := [(site 48 11, Dec.prim [pint 0]), (site 48 16, Dec.prim [ordP fr 7]), (site 24 50, Dec.int n), (site 24 52, Dec.b false), (site 24 56, Dec.app false), (site 48 21, Dec.int ((l.length : Nat) : Int)), (site 48 8001, Dec.loop [1, 2, 3, 4, 20, 21, 22] .ret { σ := slots 47 [], h := (hO 7 8 8 7 fr es l many oa1 tk1 true) })]) (keep := []) (L := [(site 48 4, 7)]) (sc' := []) (by kernel_rfl) (AllP_cons hf (AllP_cons hcl (AllP_cons hn (AllP_cons h52 (AllP_cons hfp (AllP_cons h21 (AllP_cons hl (AllP_cons (rfl : true = true) (AllP_cons (f4_7 fr es l many ho1 tk1 true) (AllP_cons (rfl : true = true) AllP_nil))))))))))
theorem pb0_7 (fr : Nat → Fr) (es : List (Value × Bool × List DV)) (l : List (Int × Int)) (many : Int) (hf : fitsSpec [.one (.mp es), ordP fr 7] = some [pint 0]) (hcl : cloneSpec [ordP fr 7] = some [ordP fr 7]) (h52 : ((0 : Int) == many) = true) : Ev C9 noO (.call 48 (args48 7) (hO 7 8 7 7 fr es l many (.d (.v (.slice none 0 0))) [] false)) (.val unitA (hO 7 8 7 7 fr es l many (.d (.v (.slice none 0 0))) [] true)) :=
  symCT_ev (n := 200) (sc := [(site 48 11, Dec.prim [pint 0]), (site 48 16, Dec.prim [ordP fr 7]), (site 24 52, Dec.b true)]) (keep := []) (L := [(site 48 4, 7)]) (sc' := []) (by kernel_rfl) (AllP_cons hf (AllP_cons hcl (AllP_cons h52 (AllP_cons (rfl : true = true) (AllP_cons (rfl : true = true) (AllP_cons (rfl : true = true) AllP_nil))))))
theorem pb1_7 (fr : Nat → Fr) (es : List (Value × Bool × List DV)) (l : List (Int × Int)) (many : Int) (rows : List (List DV)) (g : Nat) (n : Int) (hf : fitsSpec [.one (.mp es), ordP fr 7] = some [pint 0]) (hcl : cloneSpec [ordP fr 7] = some [ordP fr 7]) (hn : (rows.length : Int) = n) (h52 : (n == many) = true) : Ev C9 noO (.call 48 (args48 7) (hO 7 8 7 7 fr es l many (.st 1 rows (site 24 56) g) [(site 24 56, g)] false)) (.val unitA (hO 7 8 7 7 fr es l many (.st 1 rows (site 24 56) g) [(site 24 56, g)] true)) :=
  symCT_ev (n := 200) (sc := [(site 48 11, Dec.prim [pint 0]), (site 48 16, Dec.prim [ordP fr 7]), (site 24 50, Dec.int n), (site 24 52, Dec.b true)]) (keep := []) (L := [(site 48 4, 7)]) (sc' := []) (by kernel_rfl) (AllP_cons hf (AllP_cons hcl (AllP_cons hn (AllP_cons h52 (AllP_cons (rfl : true = true) (AllP_cons (rfl : true = true) (AllP_cons (rfl : true = true) AllP_nil)))))))

end Go.Ev

namespace Go.Ev
open Go Go.RowKit Go.Proofs

/-- the next order's rows, and how many stood there -/
def nr (fr : Nat → Fr) (D : Nat) (c : Int × Int) : List (List DV) := match D with
  | 0 => [rowC c]
  | D + 1 => (fr (D + 1)).r ++ [rowC c]
def nl (fr : Nat → Fr) (D : Nat) : Nat := match D with
  | 0 => 0
  | D + 1 => (fr (D + 1)).r.length
def ordD (fr : Nat → Fr) (D : Nat) : DV := match D with
  | 0 => .v (.slice none 0 0)
  | D + 1 => .sl 2 false (fr (D + 1)).r
def clP (fr : Nat → Fr) (D : Nat) : Prop := match D with
  | 0 => true = true
  | D + 1 => cloneSpec [ordP fr (D + 1)] = some [ordP fr (D + 1)]
theorem gq0 (D : Nat) (hD : D < 8) (fr : Nat → Fr) (es : List (Value × Bool × List DV)) (l : List (Int × Int)) (many : Int) (oa : AV) (tk : List (Nat × Nat)) (i : Int) (h1 : decide (i < ((l.length : Nat) : Int)) = false) : Ev C9 noO (.code 48 false (loopOf Try.prog 48 0) { σ := fS l i D, h := (hO D (D + 1) (D + 1) D fr es l many oa tk false) }) (.code (.exit 0) { σ := slots 47 [], h := (hO D (D + 1) (D + 1) D fr es l many oa tk false) }) := by
  revert h1
  match D, hD with
  | 0, _ => intro h1; exact q0_0 fr es l many oa tk i h1
  | 1, _ => intro h1; exact q0_1 fr es l many oa tk i h1
  | 2, _ => intro h1; exact q0_2 fr es l many oa tk i h1
  | 3, _ => intro h1; exact q0_3 fr es l many oa tk i h1
  | 4, _ => intro h1; exact q0_4 fr es l many oa tk i h1
  | 5, _ => intro h1; exact q0_5 fr es l many oa tk i h1
  | 6, _ => intro h1; exact q0_6 fr es l many oa tk i h1
  | 7, _ => intro h1; exact q0_7 fr es l many oa tk i h1
  | n + 8, h => omega

theorem gq1 (D : Nat) (hD : D < 8) (fr : Nat → Fr) (es : List (Value × Bool × List DV)) (l : List (Int × Int)) (many : Int) (oa : AV) (ho : OutOK oa) (tk : List (Nat × Nat)) (i i1 : Int) (c : Int × Int) (x : X) (s : St) (h1 : decide (i < ((l.length : Nat) : Int)) = true) (h2 : 0 ≤ i ∧ (rowsP l)[i.toNat]? = some (rowC c)) (h3 : containsSpec [ordP fr D, .agg (rowC c)] = some [pbool true]) (h4 : wr64 (i + 1) = i1) (h5 : Ev C9 noO (.code 48 false (loopOf Try.prog 48 0) { σ := fS l i1 D, h := (hO D (D + 1) (D + 1) D fr es l many oa tk false) }) (.code x s)) : Ev C9 noO (.code 48 false (loopOf Try.prog 48 0) { σ := fS l i D, h := (hO D (D + 1) (D + 1) D fr es l many oa tk false) }) (.code x s) := by
  revert h1 h2 h3 h4 h5
  match D, hD with
  | 0, _ => intro h1 h2 h3 h4 h5; exact q1_0 fr es l many oa ho tk i i1 c x s h1 h2 h3 h4 h5
  | 1, _ => intro h1 h2 h3 h4 h5; exact q1_1 fr es l many oa ho tk i i1 c x s h1 h2 h3 h4 h5
  | 2, _ => intro h1 h2 h3 h4 h5; exact q1_2 fr es l many oa ho tk i i1 c x s h1 h2 h3 h4 h5
  | 3, _ => intro h1 h2 h3 h4 h5; exact q1_3 fr es l many oa ho tk i i1 c x s h1 h2 h3 h4 h5
  | 4, _ => intro h1 h2 h3 h4 h5; exact q1_4 fr es l many oa ho tk i i1 c x s h1 h2 h3 h4 h5
  | 5, _ => intro h1 h2 h3 h4 h5; exact q1_5 fr es l many oa ho tk i i1 c x s h1 h2 h3 h4 h5
  | 6, _ => intro h1 h2 h3 h4 h5; exact q1_6 fr es l many oa ho tk i i1 c x s h1 h2 h3 h4 h5
  | 7, _ => intro h1 h2 h3 h4 h5; exact q1_7 fr es l many oa ho tk i i1 c x s h1 h2 h3 h4 h5
  | n + 8, h => omega

theorem gq2 (D : Nat) (hD : D < 8) (fr : Nat → Fr) (es : List (Value × Bool × List DV)) (l : List (Int × Int)) (many : Int) (oa : AV) (ho : OutOK oa) (tk : List (Nat × Nat)) (i i1 : Int) (c : Int × Int) (x : X) (s : St) (h1 : decide (i < ((l.length : Nat) : Int)) = true) (h2 : 0 ≤ i ∧ (rowsP l)[i.toNat]? = some (rowC c)) (h3 : containsSpec [ordP fr D, .agg (rowC c)] = some [pbool false]) (hc : Ev C9 noO (.call 52 [lA l, blkF D] (hO D (D + 1) (D + 1) (D + 1) (updC fr D c i) es l many oa tk false)) (.val (vb true) (hO D (D + 1) (D + 1) (D + 1) (updC fr D c i) es l many oa tk false))) (h4 : wr64 (i + 1) = i1) (h5 : Ev C9 noO (.code 48 false (loopOf Try.prog 48 0) { σ := fS l i1 D, h := (hO D (D + 1) (D + 1) D fr es l many oa tk false) }) (.code x s)) : Ev C9 noO (.code 48 false (loopOf Try.prog 48 0) { σ := fS l i D, h := (hO D (D + 1) (D + 1) D fr es l many oa tk false) }) (.code x s) := by
  revert h1 h2 h3 hc h4 h5
  match D, hD with
  | 0, _ => intro h1 h2 h3 hc h4 h5; exact q2_0 fr es l many oa ho tk i i1 c x s h1 h2 h3 hc h4 h5
  | 1, _ => intro h1 h2 h3 hc h4 h5; exact q2_1 fr es l many oa ho tk i i1 c x s h1 h2 h3 hc h4 h5
  | 2, _ => intro h1 h2 h3 hc h4 h5; exact q2_2 fr es l many oa ho tk i i1 c x s h1 h2 h3 hc h4 h5
  | 3, _ => intro h1 h2 h3 hc h4 h5; exact q2_3 fr es l many oa ho tk i i1 c x s h1 h2 h3 hc h4 h5
  | 4, _ => intro h1 h2 h3 hc h4 h5; exact q2_4 fr es l many oa ho tk i i1 c x s h1 h2 h3 hc h4 h5
  | 5, _ => intro h1 h2 h3 hc h4 h5; exact q2_5 fr es l many oa ho tk i i1 c x s h1 h2 h3 hc h4 h5
  | 6, _ => intro h1 h2 h3 hc h4 h5; exact q2_6 fr es l many oa ho tk i i1 c x s h1 h2 h3 hc h4 h5
  | 7, _ => intro h1 h2 h3 hc h4 h5; exact q2_7 fr es l many oa ho tk i i1 c x s h1 h2 h3 hc h4 h5
  | n + 8, h => omega

theorem gq3 (D : Nat) (hD : D < 7) (fr : Nat → Fr) (es : List (Value × Bool × List DV)) (l : List (Int × Int)) (many : Int) (oa oa1 : AV) (ho1 : OutOK oa1) (tk tk1 : List (Nat × Nat)) (i i1 : Int) (c : Int × Int) (x : X) (s : St) (h1 : decide (i < ((l.length : Nat) : Int)) = true) (h2 : 0 ≤ i ∧ (rowsP l)[i.toNat]? = some (rowC c)) (h3 : containsSpec [ordP fr D, .agg (rowC c)] = some [pbool false]) (hc : Ev C9 noO (.call 52 [lA l, blkF D] (hO D (D + 1) (D + 1) (D + 1) (updC fr D c i) es l many oa tk false)) (.val (vb false) (hO D (D + 1) (D + 1) (D + 1) (updC fr D c i) es l many oa tk false))) (hf : false = false ∧ fitsP (nl fr D) 1 16) (he : Ev C9 noO (.call 48 (args48 (D + 1)) (hO (D + 1) (D + 2) (D + 1) (D + 1) (updO fr D c i (nr fr D c)) es l many oa tk false)) (.val unitA (hO (D + 1) (D + 2) (D + 1) (D + 1) (updO fr D c i (nr fr D c)) es l many oa1 tk1 false))) (h4 : wr64 (i + 1) = i1) (h5 : Ev C9 noO (.code 48 false (loopOf Try.prog 48 0) { σ := fS l i1 D, h := (hO D (D + 1) (D + 1) D fr es l many oa1 tk1 false) }) (.code x s)) : Ev C9 noO (.code 48 false (loopOf Try.prog 48 0) { σ := fS l i D, h := (hO D (D + 1) (D + 1) D fr es l many oa tk false) }) (.code x s) := by
  revert h1 h2 h3 hc hf he h4 h5
  match D, hD with
  | 0, _ => intro h1 h2 h3 hc hf he h4 h5; exact q3_0 fr es l many oa oa1 ho1 tk tk1 i i1 c x s h1 h2 h3 hc hf he h4 h5
  | 1, _ => intro h1 h2 h3 hc hf he h4 h5; exact q3_1 fr es l many oa oa1 ho1 tk tk1 i i1 c x s h1 h2 h3 hc hf he h4 h5
  | 2, _ => intro h1 h2 h3 hc hf he h4 h5; exact q3_2 fr es l many oa oa1 ho1 tk tk1 i i1 c x s h1 h2 h3 hc hf he h4 h5
  | 3, _ => intro h1 h2 h3 hc hf he h4 h5; exact q3_3 fr es l many oa oa1 ho1 tk tk1 i i1 c x s h1 h2 h3 hc hf he h4 h5
  | 4, _ => intro h1 h2 h3 hc hf he h4 h5; exact q3_4 fr es l many oa oa1 ho1 tk tk1 i i1 c x s h1 h2 h3 hc hf he h4 h5
  | 5, _ => intro h1 h2 h3 hc hf he h4 h5; exact q3_5 fr es l many oa oa1 ho1 tk tk1 i i1 c x s h1 h2 h3 hc hf he h4 h5
  | 6, _ => intro h1 h2 h3 hc hf he h4 h5; exact q3_6 fr es l many oa oa1 ho1 tk tk1 i i1 c x s h1 h2 h3 hc hf he h4 h5
  | n + 7, h => omega

theorem gq4 (D : Nat) (hD : D < 7) (fr : Nat → Fr) (es : List (Value × Bool × List DV)) (l : List (Int × Int)) (many : Int) (oa oa1 : AV) (ho1 : OutOK oa1) (tk tk1 : List (Nat × Nat)) (i i1 : Int) (c : Int × Int) (x : X) (s : St) (h1 : decide (i < ((l.length : Nat) : Int)) = true) (h2 : 0 ≤ i ∧ (rowsP l)[i.toNat]? = some (rowC c)) (h3 : containsSpec [ordP fr D, .agg (rowC c)] = some [pbool false]) (hc : Ev C9 noO (.call 52 [lA l, blkF D] (hO D (D + 1) (D + 1) (D + 1) (updC fr D c i) es l many oa tk false)) (.val (vb false) (hO D (D + 1) (D + 1) (D + 1) (updC fr D c i) es l many oa tk false))) (hf : false = false ∧ fitsP (nl fr D) 1 16) (he : Ev C9 noO (.call 48 (args48 (D + 1)) (hO (D + 1) (D + 2) (D + 1) (D + 1) (updO fr D c i (nr fr D c)) es l many oa tk false)) (.val unitA (hO (D + 1) (D + 2) (D + 1) (D + 1) (updO fr D c i (nr fr D c)) es l many oa1 tk1 true))) : Ev C9 noO (.code 48 false (loopOf Try.prog 48 0) { σ := fS l i D, h := (hO D (D + 1) (D + 1) D fr es l many oa tk false) }) (.code .ret { σ := slots 47 [], h := (hO D (D + 1) (D + 1) D fr es l many oa1 tk1 true) }) := by
  revert h1 h2 h3 hc hf he
  match D, hD with
  | 0, _ => intro h1 h2 h3 hc hf he; exact q4_0 fr es l many oa oa1 ho1 tk tk1 i i1 c x s h1 h2 h3 hc hf he
  | 1, _ => intro h1 h2 h3 hc hf he; exact q4_1 fr es l many oa oa1 ho1 tk tk1 i i1 c x s h1 h2 h3 hc hf he
  | 2, _ => intro h1 h2 h3 hc hf he; exact q4_2 fr es l many oa oa1 ho1 tk tk1 i i1 c x s h1 h2 h3 hc hf he
  | 3, _ => intro h1 h2 h3 hc hf he; exact q4_3 fr es l many oa oa1 ho1 tk tk1 i i1 c x s h1 h2 h3 hc hf he
  | 4, _ => intro h1 h2 h3 hc hf he; exact q4_4 fr es l many oa oa1 ho1 tk tk1 i i1 c x s h1 h2 h3 hc hf he
  | 5, _ => intro h1 h2 h3 hc hf he; exact q4_5 fr es l many oa oa1 ho1 tk tk1 i i1 c x s h1 h2 h3 hc hf he
  | 6, _ => intro h1 h2 h3 hc hf he; exact q4_6 fr es l many oa oa1 ho1 tk tk1 i i1 c x s h1 h2 h3 hc hf he
  | n + 7, h => omega

theorem gr0 (D : Nat) (hD : D < 8) (fr : Nat → Fr) (es : List (Value × Bool × List DV)) (l : List (Int × Int)) (many : Int) (oa : AV) (tk : List (Nat × Nat)) (i : Int) (h1 : decide (i < ((l.length : Nat) : Int)) = false) : Ev C9 noO (.code 66 false (loopOf Try.prog 66 0) { σ := slots 19 [(0, lA l), (1, blkF D), (7, vi ((l.length : Nat) : Int)), (8, vi i)], h := (hO D (D + 1) (D + 1) (D + 1) fr es l many oa tk false) }) (.code (.exit 0) { σ := slots 19 [], h := (hO D (D + 1) (D + 1) (D + 1) fr es l many oa tk false) }) := by
  revert h1
  match D, hD with
  | 0, _ => intro h1; exact r0_0 fr es l many oa tk i h1
  | 1, _ => intro h1; exact r0_1 fr es l many oa tk i h1
  | 2, _ => intro h1; exact r0_2 fr es l many oa tk i h1
  | 3, _ => intro h1; exact r0_3 fr es l many oa tk i h1
  | 4, _ => intro h1; exact r0_4 fr es l many oa tk i h1
  | 5, _ => intro h1; exact r0_5 fr es l many oa tk i h1
  | 6, _ => intro h1; exact r0_6 fr es l many oa tk i h1
  | 7, _ => intro h1; exact r0_7 fr es l many oa tk i h1
  | n + 8, h => omega

theorem gr1 (D : Nat) (hD : D < 8) (fr : Nat → Fr) (es : List (Value × Bool × List DV)) (l : List (Int × Int)) (many : Int) (oa : AV) (tk : List (Nat × Nat)) (i i1 : Int) (y : Int × Int) (ho : OutOK oa) (x : X) (s : St) (h1 : decide (i < ((l.length : Nat) : Int)) = true) (h2 : 0 ≤ i ∧ (rowsP l)[i.toNat]? = some (rowC y)) (h3 : containsSpec [ordP fr D, .agg (rowC y)] = some [pbool true]) (h4 : wr64 (i + 1) = i1) (h5 : Ev C9 noO (.code 66 false (loopOf Try.prog 66 0) { σ := slots 19 [(0, lA l), (1, blkF D), (7, vi ((l.length : Nat) : Int)), (8, vi i1)], h := (hO D (D + 1) (D + 1) (D + 1) fr es l many oa tk false) }) (.code x s)) : Ev C9 noO (.code 66 false (loopOf Try.prog 66 0) { σ := slots 19 [(0, lA l), (1, blkF D), (7, vi ((l.length : Nat) : Int)), (8, vi i)], h := (hO D (D + 1) (D + 1) (D + 1) fr es l many oa tk false) }) (.code x s) := by
  revert h1 h2 h3 h4 h5
  match D, hD with
  | 0, _ => intro h1 h2 h3 h4 h5; exact r1_0 fr es l many oa tk i i1 y ho x s h1 h2 h3 h4 h5
  | 1, _ => intro h1 h2 h3 h4 h5; exact r1_1 fr es l many oa tk i i1 y ho x s h1 h2 h3 h4 h5
  | 2, _ => intro h1 h2 h3 h4 h5; exact r1_2 fr es l many oa tk i i1 y ho x s h1 h2 h3 h4 h5
  | 3, _ => intro h1 h2 h3 h4 h5; exact r1_3 fr es l many oa tk i i1 y ho x s h1 h2 h3 h4 h5
  | 4, _ => intro h1 h2 h3 h4 h5; exact r1_4 fr es l many oa tk i i1 y ho x s h1 h2 h3 h4 h5
  | 5, _ => intro h1 h2 h3 h4 h5; exact r1_5 fr es l many oa tk i i1 y ho x s h1 h2 h3 h4 h5
  | 6, _ => intro h1 h2 h3 h4 h5; exact r1_6 fr es l many oa tk i i1 y ho x s h1 h2 h3 h4 h5
  | 7, _ => intro h1 h2 h3 h4 h5; exact r1_7 fr es l many oa tk i i1 y ho x s h1 h2 h3 h4 h5
  | n + 8, h => omega

theorem gr2 (D : Nat) (hD : D < 8) (fr : Nat → Fr) (es : List (Value × Bool × List DV)) (l : List (Int × Int)) (many : Int) (oa : AV) (tk : List (Nat × Nat)) (i i1 : Int) (y : Int × Int) (ho : OutOK oa) (x : X) (s : St) (u v : Int × Int) (h1 : decide (i < ((l.length : Nat) : Int)) = true) (h2 : 0 ≤ i ∧ (rowsP l)[i.toNat]? = some (rowC y)) (h3 : containsSpec [ordP fr D, .agg (rowC y)] = some [pbool false]) (h4 : lookupIn C9 59 es (.agg [vi y.1, vi y.2]) false = some (.agg [vi u.1, vi u.2])) (h5 : lookupIn C9 59 es (.agg [vi (fr D).c.1, vi (fr D).c.2]) false = some (.agg [vi v.1, vi v.2])) (h6 : aheadSpec [.agg (rowC u), .agg (rowC v)] = some [pbool false]) (h7 : wr64 (i + 1) = i1) (h8 : Ev C9 noO (.code 66 false (loopOf Try.prog 66 0) { σ := slots 19 [(0, lA l), (1, blkF D), (7, vi ((l.length : Nat) : Int)), (8, vi i1)], h := (hO D (D + 1) (D + 1) (D + 1) fr es l many oa tk false) }) (.code x s)) : Ev C9 noO (.code 66 false (loopOf Try.prog 66 0) { σ := slots 19 [(0, lA l), (1, blkF D), (7, vi ((l.length : Nat) : Int)), (8, vi i)], h := (hO D (D + 1) (D + 1) (D + 1) fr es l many oa tk false) }) (.code x s) := by
  revert h1 h2 h3 h4 h5 h6 h7 h8
  match D, hD with
  | 0, _ => intro h1 h2 h3 h4 h5 h6 h7 h8; exact r2_0 fr es l many oa tk i i1 y ho x s h1 h2 h3 u v h4 h5 h6 h7 h8
  | 1, _ => intro h1 h2 h3 h4 h5 h6 h7 h8; exact r2_1 fr es l many oa tk i i1 y ho x s h1 h2 h3 u v h4 h5 h6 h7 h8
  | 2, _ => intro h1 h2 h3 h4 h5 h6 h7 h8; exact r2_2 fr es l many oa tk i i1 y ho x s h1 h2 h3 u v h4 h5 h6 h7 h8
  | 3, _ => intro h1 h2 h3 h4 h5 h6 h7 h8; exact r2_3 fr es l many oa tk i i1 y ho x s h1 h2 h3 u v h4 h5 h6 h7 h8
  | 4, _ => intro h1 h2 h3 h4 h5 h6 h7 h8; exact r2_4 fr es l many oa tk i i1 y ho x s h1 h2 h3 u v h4 h5 h6 h7 h8
  | 5, _ => intro h1 h2 h3 h4 h5 h6 h7 h8; exact r2_5 fr es l many oa tk i i1 y ho x s h1 h2 h3 u v h4 h5 h6 h7 h8
  | 6, _ => intro h1 h2 h3 h4 h5 h6 h7 h8; exact r2_6 fr es l many oa tk i i1 y ho x s h1 h2 h3 u v h4 h5 h6 h7 h8
  | 7, _ => intro h1 h2 h3 h4 h5 h6 h7 h8; exact r2_7 fr es l many oa tk i i1 y ho x s h1 h2 h3 u v h4 h5 h6 h7 h8
  | n + 8, h => omega

theorem gr3 (D : Nat) (hD : D < 8) (fr : Nat → Fr) (es : List (Value × Bool × List DV)) (l : List (Int × Int)) (many : Int) (oa : AV) (tk : List (Nat × Nat)) (i i1 : Int) (y : Int × Int) (ho : OutOK oa) (u v : Int × Int) (h1 : decide (i < ((l.length : Nat) : Int)) = true) (h2 : 0 ≤ i ∧ (rowsP l)[i.toNat]? = some (rowC y)) (h3 : containsSpec [ordP fr D, .agg (rowC y)] = some [pbool false]) (h4 : lookupIn C9 59 es (.agg [vi y.1, vi y.2]) false = some (.agg [vi u.1, vi u.2])) (h5 : lookupIn C9 59 es (.agg [vi (fr D).c.1, vi (fr D).c.2]) false = some (.agg [vi v.1, vi v.2])) (h6 : aheadSpec [.agg (rowC u), .agg (rowC v)] = some [pbool true]) : Ev C9 noO (.code 66 false (loopOf Try.prog 66 0) { σ := slots 19 [(0, lA l), (1, blkF D), (7, vi ((l.length : Nat) : Int)), (8, vi i)], h := (hO D (D + 1) (D + 1) (D + 1) fr es l many oa tk false) }) (.code .ret { σ := slots 19 [(4, vi i)], h := (hO D (D + 1) (D + 1) (D + 1) fr es l many oa tk false) }) := by
  revert h1 h2 h3 h4 h5 h6
  match D, hD with
  | 0, _ => intro h1 h2 h3 h4 h5 h6; exact r3_0 fr es l many oa tk i i1 y ho h1 h2 h3 u v h4 h5 h6
  | 1, _ => intro h1 h2 h3 h4 h5 h6; exact r3_1 fr es l many oa tk i i1 y ho h1 h2 h3 u v h4 h5 h6
  | 2, _ => intro h1 h2 h3 h4 h5 h6; exact r3_2 fr es l many oa tk i i1 y ho h1 h2 h3 u v h4 h5 h6
  | 3, _ => intro h1 h2 h3 h4 h5 h6; exact r3_3 fr es l many oa tk i i1 y ho h1 h2 h3 u v h4 h5 h6
  | 4, _ => intro h1 h2 h3 h4 h5 h6; exact r3_4 fr es l many oa tk i i1 y ho h1 h2 h3 u v h4 h5 h6
  | 5, _ => intro h1 h2 h3 h4 h5 h6; exact r3_5 fr es l many oa tk i i1 y ho h1 h2 h3 u v h4 h5 h6
  | 6, _ => intro h1 h2 h3 h4 h5 h6; exact r3_6 fr es l many oa tk i i1 y ho h1 h2 h3 u v h4 h5 h6
  | 7, _ => intro h1 h2 h3 h4 h5 h6; exact r3_7 fr es l many oa tk i i1 y ho h1 h2 h3 u v h4 h5 h6
  | n + 8, h => omega

theorem gcf_n (D : Nat) (hD : D < 8) (fr : Nat → Fr) (es : List (Value × Bool × List DV)) (l : List (Int × Int)) (many : Int) (oa : AV) (tk : List (Nat × Nat)) (h1 : ((rowsP l).length : Int) = ((l.length : Nat) : Int)) (h : Ev C9 noO (.code 66 false (loopOf Try.prog 66 0) { σ := slots 19 [(0, lA l), (1, blkF D), (7, vi ((l.length : Nat) : Int)), (8, vi 0)], h := (hO D (D + 1) (D + 1) (D + 1) fr es l many oa tk false) }) (.code (.exit 0) { σ := slots 19 [], h := (hO D (D + 1) (D + 1) (D + 1) fr es l many oa tk false) })) : Ev C9 noO (.call 52 [lA l, blkF D] (hO D (D + 1) (D + 1) (D + 1) fr es l many oa tk false)) (.val (vb false) (hO D (D + 1) (D + 1) (D + 1) fr es l many oa tk false)) := by
  revert h1 h
  match D, hD with
  | 0, _ => intro h1 h; exact cf_n_0 fr es l many oa tk h1 h
  | 1, _ => intro h1 h; exact cf_n_1 fr es l many oa tk h1 h
  | 2, _ => intro h1 h; exact cf_n_2 fr es l many oa tk h1 h
  | 3, _ => intro h1 h; exact cf_n_3 fr es l many oa tk h1 h
  | 4, _ => intro h1 h; exact cf_n_4 fr es l many oa tk h1 h
  | 5, _ => intro h1 h; exact cf_n_5 fr es l many oa tk h1 h
  | 6, _ => intro h1 h; exact cf_n_6 fr es l many oa tk h1 h
  | 7, _ => intro h1 h; exact cf_n_7 fr es l many oa tk h1 h
  | n + 8, h => omega

theorem gcf_y (D : Nat) (hD : D < 8) (fr : Nat → Fr) (es : List (Value × Bool × List DV)) (l : List (Int × Int)) (many : Int) (oa : AV) (tk : List (Nat × Nat)) (i : Int) (h1 : ((rowsP l).length : Int) = ((l.length : Nat) : Int)) (h : Ev C9 noO (.code 66 false (loopOf Try.prog 66 0) { σ := slots 19 [(0, lA l), (1, blkF D), (7, vi ((l.length : Nat) : Int)), (8, vi 0)], h := (hO D (D + 1) (D + 1) (D + 1) fr es l many oa tk false) }) (.code .ret { σ := slots 19 [(4, vi i)], h := (hO D (D + 1) (D + 1) (D + 1) fr es l many oa tk false) })) (h0 : decide (i ≥ 0) = true) : Ev C9 noO (.call 52 [lA l, blkF D] (hO D (D + 1) (D + 1) (D + 1) fr es l many oa tk false)) (.val (vb true) (hO D (D + 1) (D + 1) (D + 1) fr es l many oa tk false)) := by
  revert h1 h h0
  match D, hD with
  | 0, _ => intro h1 h h0; exact cf_y_0 fr es l many oa tk i h1 h h0
  | 1, _ => intro h1 h h0; exact cf_y_1 fr es l many oa tk i h1 h h0
  | 2, _ => intro h1 h h0; exact cf_y_2 fr es l many oa tk i h1 h h0
  | 3, _ => intro h1 h h0; exact cf_y_3 fr es l many oa tk i h1 h h0
  | 4, _ => intro h1 h h0; exact cf_y_4 fr es l many oa tk i h1 h h0
  | 5, _ => intro h1 h h0; exact cf_y_5 fr es l many oa tk i h1 h h0
  | 6, _ => intro h1 h h0; exact cf_y_6 fr es l many oa tk i h1 h h0
  | 7, _ => intro h1 h h0; exact cf_y_7 fr es l many oa tk i h1 h h0
  | n + 8, h => omega

theorem gpne (D : Nat) (hD : D < 8) (fr : Nat → Fr) (es : List (Value × Bool × List DV)) (l : List (Int × Int)) (many : Int) (oa : AV) (tk : List (Nat × Nat)) (k : Int) (oa1 : AV) (ho1 : OutOK oa1) (tk1 : List (Nat × Nat)) (hf : fitsSpec [.one (.mp es), ordP fr D] = some [pint k]) (h0 : (k == 0) = false) (h21 : ((rowsP l).length : Int) = ((l.length : Nat) : Int)) (hl : Ev C9 noO (.code 48 false (loopOf Try.prog 48 0) { σ := fS l 0 D, h := (hO D (D + 1) (D + 1) D fr es l many oa tk false) }) (.code (.exit 0) { σ := slots 47 [], h := (hO D (D + 1) (D + 1) D fr es l many oa1 tk1 false) })) : Ev C9 noO (.call 48 (args48 D) (hO D (D + 1) D D fr es l many oa tk false)) (.val unitA (hO D (D + 1) D D fr es l many oa1 tk1 false)) := by
  revert hf h0 h21 hl
  match D, hD with
  | 0, _ => intro hf h0 h21 hl; exact pne_0 fr es l many oa tk k hf h0 oa1 ho1 tk1 h21 hl
  | 1, _ => intro hf h0 h21 hl; exact pne_1 fr es l many oa tk k hf h0 oa1 ho1 tk1 h21 hl
  | 2, _ => intro hf h0 h21 hl; exact pne_2 fr es l many oa tk k hf h0 oa1 ho1 tk1 h21 hl
  | 3, _ => intro hf h0 h21 hl; exact pne_3 fr es l many oa tk k hf h0 oa1 ho1 tk1 h21 hl
  | 4, _ => intro hf h0 h21 hl; exact pne_4 fr es l many oa tk k hf h0 oa1 ho1 tk1 h21 hl
  | 5, _ => intro hf h0 h21 hl; exact pne_5 fr es l many oa tk k hf h0 oa1 ho1 tk1 h21 hl
  | 6, _ => intro hf h0 h21 hl; exact pne_6 fr es l many oa tk k hf h0 oa1 ho1 tk1 h21 hl
  | 7, _ => intro hf h0 h21 hl; exact pne_7 fr es l many oa tk k hf h0 oa1 ho1 tk1 h21 hl
  | n + 8, h => omega

theorem gpy0e (D : Nat) (hD : D < 8) (fr : Nat → Fr) (es : List (Value × Bool × List DV)) (l : List (Int × Int)) (many : Int) (oa1 : AV) (ho1 : OutOK oa1) (tk1 : List (Nat × Nat)) (hf : fitsSpec [.one (.mp es), ordP fr D] = some [pint 0]) (hcl : clP fr D) (h52 : ((0 : Int) == many) = false) (h21 : ((rowsP l).length : Int) = ((l.length : Nat) : Int)) (hl : Ev C9 noO (.code 48 false (loopOf Try.prog 48 0) { σ := fS l 0 D, h := (hO D (D + 1) (D + 1) D fr es l many (.st 1 [[ordD fr D]] (site 24 56) 1) [(site 24 56, 1)] false) }) (.code (.exit 0) { σ := slots 47 [], h := (hO D (D + 1) (D + 1) D fr es l many oa1 tk1 false) })) : Ev C9 noO (.call 48 (args48 D) (hO D (D + 1) D D fr es l many (.d (.v (.slice none 0 0))) [] false)) (.val unitA (hO D (D + 1) D D fr es l many oa1 tk1 false)) := by
  revert hf hcl h52 h21 hl
  match D, hD with
  | 0, _ => intro hf hcl h52 h21 hl; exact py0e_0 fr es l many hf hcl h52 oa1 ho1 tk1 h21 hl
  | 1, _ => intro hf hcl h52 h21 hl; exact py0e_1 fr es l many hf hcl h52 oa1 ho1 tk1 h21 hl
  | 2, _ => intro hf hcl h52 h21 hl; exact py0e_2 fr es l many hf hcl h52 oa1 ho1 tk1 h21 hl
  | 3, _ => intro hf hcl h52 h21 hl; exact py0e_3 fr es l many hf hcl h52 oa1 ho1 tk1 h21 hl
  | 4, _ => intro hf hcl h52 h21 hl; exact py0e_4 fr es l many hf hcl h52 oa1 ho1 tk1 h21 hl
  | 5, _ => intro hf hcl h52 h21 hl; exact py0e_5 fr es l many hf hcl h52 oa1 ho1 tk1 h21 hl
  | 6, _ => intro hf hcl h52 h21 hl; exact py0e_6 fr es l many hf hcl h52 oa1 ho1 tk1 h21 hl
  | 7, _ => intro hf hcl h52 h21 hl; exact py0e_7 fr es l many hf hcl h52 oa1 ho1 tk1 h21 hl
  | n + 8, h => omega

theorem gpy1e (D : Nat) (hD : D < 8) (fr : Nat → Fr) (es : List (Value × Bool × List DV)) (l : List (Int × Int)) (many : Int) (rows : List (List DV)) (g : Nat) (n : Int) (oa1 : AV) (ho1 : OutOK oa1) (tk1 : List (Nat × Nat)) (hf : fitsSpec [.one (.mp es), ordP fr D] = some [pint 0]) (hcl : clP fr D) (hn : (rows.length : Int) = n) (h52 : (n == many) = false) (hfp : false = false ∧ g = g ∧ fitsP rows.length 1 24) (h21 : ((rowsP l).length : Int) = ((l.length : Nat) : Int)) (hl : Ev C9 noO (.code 48 false (loopOf Try.prog 48 0) { σ := fS l 0 D, h := (hO D (D + 1) (D + 1) D fr es l many (.st 1 (rows ++ [[ordD fr D]]) (site 24 56) (g + 1 + 1)) [(site 24 56, g + 1 + 1)] false) }) (.code (.exit 0) { σ := slots 47 [], h := (hO D (D + 1) (D + 1) D fr es l many oa1 tk1 false) })) : Ev C9 noO (.call 48 (args48 D) (hO D (D + 1) D D fr es l many (.st 1 rows (site 24 56) g) [(site 24 56, g)] false)) (.val unitA (hO D (D + 1) D D fr es l many oa1 tk1 false)) := by
  revert hf hcl hn h52 hfp h21 hl
  match D, hD with
  | 0, _ => intro hf hcl hn h52 hfp h21 hl; exact py1e_0 fr es l many rows g n hf hcl hn h52 hfp oa1 ho1 tk1 h21 hl
  | 1, _ => intro hf hcl hn h52 hfp h21 hl; exact py1e_1 fr es l many rows g n hf hcl hn h52 hfp oa1 ho1 tk1 h21 hl
  | 2, _ => intro hf hcl hn h52 hfp h21 hl; exact py1e_2 fr es l many rows g n hf hcl hn h52 hfp oa1 ho1 tk1 h21 hl
  | 3, _ => intro hf hcl hn h52 hfp h21 hl; exact py1e_3 fr es l many rows g n hf hcl hn h52 hfp oa1 ho1 tk1 h21 hl
  | 4, _ => intro hf hcl hn h52 hfp h21 hl; exact py1e_4 fr es l many rows g n hf hcl hn h52 hfp oa1 ho1 tk1 h21 hl
  | 5, _ => intro hf hcl hn h52 hfp h21 hl; exact py1e_5 fr es l many rows g n hf hcl hn h52 hfp oa1 ho1 tk1 h21 hl
  | 6, _ => intro hf hcl hn h52 hfp h21 hl; exact py1e_6 fr es l many rows g n hf hcl hn h52 hfp oa1 ho1 tk1 h21 hl
  | 7, _ => intro hf hcl hn h52 hfp h21 hl; exact py1e_7 fr es l many rows g n hf hcl hn h52 hfp oa1 ho1 tk1 h21 hl
  | n + 8, h => omega

theorem gpnr (D : Nat) (hD : D < 8) (fr : Nat → Fr) (es : List (Value × Bool × List DV)) (l : List (Int × Int)) (many : Int) (oa : AV) (tk : List (Nat × Nat)) (k : Int) (oa1 : AV) (ho1 : OutOK oa1) (tk1 : List (Nat × Nat)) (hf : fitsSpec [.one (.mp es), ordP fr D] = some [pint k]) (h0 : (k == 0) = false) (h21 : ((rowsP l).length : Int) = ((l.length : Nat) : Int)) (hl : Ev C9 noO (.code 48 false (loopOf Try.prog 48 0) { σ := fS l 0 D, h := (hO D (D + 1) (D + 1) D fr es l many oa tk false) }) (.code .ret { σ := slots 47 [], h := (hO D (D + 1) (D + 1) D fr es l many oa1 tk1 true) })) : Ev C9 noO (.call 48 (args48 D) (hO D (D + 1) D D fr es l many oa tk false)) (.val unitA (hO D (D + 1) D D fr es l many oa1 tk1 true)) := by
  revert hf h0 h21 hl
  match D, hD with
  | 0, _ => intro hf h0 h21 hl; exact pnr_0 fr es l many oa tk k hf h0 oa1 ho1 tk1 h21 hl
  | 1, _ => intro hf h0 h21 hl; exact pnr_1 fr es l many oa tk k hf h0 oa1 ho1 tk1 h21 hl
  | 2, _ => intro hf h0 h21 hl; exact pnr_2 fr es l many oa tk k hf h0 oa1 ho1 tk1 h21 hl
  | 3, _ => intro hf h0 h21 hl; exact pnr_3 fr es l many oa tk k hf h0 oa1 ho1 tk1 h21 hl
  | 4, _ => intro hf h0 h21 hl; exact pnr_4 fr es l many oa tk k hf h0 oa1 ho1 tk1 h21 hl
  | 5, _ => intro hf h0 h21 hl; exact pnr_5 fr es l many oa tk k hf h0 oa1 ho1 tk1 h21 hl
  | 6, _ => intro hf h0 h21 hl; exact pnr_6 fr es l many oa tk k hf h0 oa1 ho1 tk1 h21 hl
  | 7, _ => intro hf h0 h21 hl; exact pnr_7 fr es l many oa tk k hf h0 oa1 ho1 tk1 h21 hl
  | n + 8, h => omega

theorem gpy0r (D : Nat) (hD : D < 8) (fr : Nat → Fr) (es : List (Value × Bool × List DV)) (l : List (Int × Int)) (many : Int) (oa1 : AV) (ho1 : OutOK oa1) (tk1 : List (Nat × Nat)) (hf : fitsSpec [.one (.mp es), ordP fr D] = some [pint 0]) (hcl : clP fr D) (h52 : ((0 : Int) == many) = false) (h21 : ((rowsP l).length : Int) = ((l.length : Nat) : Int)) (hl : Ev C9 noO (.code 48 false (loopOf Try.prog 48 0) { σ := fS l 0 D, h := (hO D (D + 1) (D + 1) D fr es l many (.st 1 [[ordD fr D]] (site 24 56) 1) [(site 24 56, 1)] false) }) (.code .ret { σ := slots 47 [], h := (hO D (D + 1) (D + 1) D fr es l many oa1 tk1 true) })) : Ev C9 noO (.call 48 (args48 D) (hO D (D + 1) D D fr es l many (.d (.v (.slice none 0 0))) [] false)) (.val unitA (hO D (D + 1) D D fr es l many oa1 tk1 true)) := by
  revert hf hcl h52 h21 hl
  match D, hD with
  | 0, _ => intro hf hcl h52 h21 hl; exact py0r_0 fr es l many hf hcl h52 oa1 ho1 tk1 h21 hl
  | 1, _ => intro hf hcl h52 h21 hl; exact py0r_1 fr es l many hf hcl h52 oa1 ho1 tk1 h21 hl
  | 2, _ => intro hf hcl h52 h21 hl; exact py0r_2 fr es l many hf hcl h52 oa1 ho1 tk1 h21 hl
  | 3, _ => intro hf hcl h52 h21 hl; exact py0r_3 fr es l many hf hcl h52 oa1 ho1 tk1 h21 hl
  | 4, _ => intro hf hcl h52 h21 hl; exact py0r_4 fr es l many hf hcl h52 oa1 ho1 tk1 h21 hl
  | 5, _ => intro hf hcl h52 h21 hl; exact py0r_5 fr es l many hf hcl h52 oa1 ho1 tk1 h21 hl
  | 6, _ => intro hf hcl h52 h21 hl; exact py0r_6 fr es l many hf hcl h52 oa1 ho1 tk1 h21 hl
  | 7, _ => intro hf hcl h52 h21 hl; exact py0r_7 fr es l many hf hcl h52 oa1 ho1 tk1 h21 hl
  | n + 8, h => omega

theorem gpy1r (D : Nat) (hD : D < 8) (fr : Nat → Fr) (es : List (Value × Bool × List DV)) (l : List (Int × Int)) (many : Int) (rows : List (List DV)) (g : Nat) (n : Int) (oa1 : AV) (ho1 : OutOK oa1) (tk1 : List (Nat × Nat)) (hf : fitsSpec [.one (.mp es), ordP fr D] = some [pint 0]) (hcl : clP fr D) (hn : (rows.length : Int) = n) (h52 : (n == many) = false) (hfp : false = false ∧ g = g ∧ fitsP rows.length 1 24) (h21 : ((rowsP l).length : Int) = ((l.length : Nat) : Int)) (hl : Ev C9 noO (.code 48 false (loopOf Try.prog 48 0) { σ := fS l 0 D, h := (hO D (D + 1) (D + 1) D fr es l many (.st 1 (rows ++ [[ordD fr D]]) (site 24 56) (g + 1 + 1)) [(site 24 56, g + 1 + 1)] false) }) (.code .ret { σ := slots 47 [], h := (hO D (D + 1) (D + 1) D fr es l many oa1 tk1 true) })) : Ev C9 noO (.call 48 (args48 D) (hO D (D + 1) D D fr es l many (.st 1 rows (site 24 56) g) [(site 24 56, g)] false)) (.val unitA (hO D (D + 1) D D fr es l many oa1 tk1 true)) := by
  revert hf hcl hn h52 hfp h21 hl
  match D, hD with
  | 0, _ => intro hf hcl hn h52 hfp h21 hl; exact py1r_0 fr es l many rows g n hf hcl hn h52 hfp oa1 ho1 tk1 h21 hl
  | 1, _ => intro hf hcl hn h52 hfp h21 hl; exact py1r_1 fr es l many rows g n hf hcl hn h52 hfp oa1 ho1 tk1 h21 hl
  | 2, _ => intro hf hcl hn h52 hfp h21 hl; exact py1r_2 fr es l many rows g n hf hcl hn h52 hfp oa1 ho1 tk1 h21 hl
  | 3, _ => intro hf hcl hn h52 hfp h21 hl; exact py1r_3 fr es l many rows g n hf hcl hn h52 hfp oa1 ho1 tk1 h21 hl
  | 4, _ => intro hf hcl hn h52 hfp h21 hl; exact py1r_4 fr es l many rows g n hf hcl hn h52 hfp oa1 ho1 tk1 h21 hl
  | 5, _ => intro hf hcl hn h52 hfp h21 hl; exact py1r_5 fr es l many rows g n hf hcl hn h52 hfp oa1 ho1 tk1 h21 hl
  | 6, _ => intro hf hcl hn h52 hfp h21 hl; exact py1r_6 fr es l many rows g n hf hcl hn h52 hfp oa1 ho1 tk1 h21 hl
  | 7, _ => intro hf hcl hn h52 hfp h21 hl; exact py1r_7 fr es l many rows g n hf hcl hn h52 hfp oa1 ho1 tk1 h21 hl
  | n + 8, h => omega

theorem gpb0 (D : Nat) (hD : D < 8) (fr : Nat → Fr) (es : List (Value × Bool × List DV)) (l : List (Int × Int)) (many : Int) (hf : fitsSpec [.one (.mp es), ordP fr D] = some [pint 0]) (hcl : clP fr D) (h52 : ((0 : Int) == many) = true) : Ev C9 noO (.call 48 (args48 D) (hO D (D + 1) D D fr es l many (.d (.v (.slice none 0 0))) [] false)) (.val unitA (hO D (D + 1) D D fr es l many (.d (.v (.slice none 0 0))) [] true)) := by
  revert hf hcl h52
  match D, hD with
  | 0, _ => intro hf hcl h52; exact pb0_0 fr es l many hf hcl h52
  | 1, _ => intro hf hcl h52; exact pb0_1 fr es l many hf hcl h52
  | 2, _ => intro hf hcl h52; exact pb0_2 fr es l many hf hcl h52
  | 3, _ => intro hf hcl h52; exact pb0_3 fr es l many hf hcl h52
  | 4, _ => intro hf hcl h52; exact pb0_4 fr es l many hf hcl h52
  | 5, _ => intro hf hcl h52; exact pb0_5 fr es l many hf hcl h52
  | 6, _ => intro hf hcl h52; exact pb0_6 fr es l many hf hcl h52
  | 7, _ => intro hf hcl h52; exact pb0_7 fr es l many hf hcl h52
  | n + 8, h => omega

theorem gpb1 (D : Nat) (hD : D < 8) (fr : Nat → Fr) (es : List (Value × Bool × List DV)) (l : List (Int × Int)) (many : Int) (rows : List (List DV)) (g : Nat) (n : Int) (hf : fitsSpec [.one (.mp es), ordP fr D] = some [pint 0]) (hcl : clP fr D) (hn : (rows.length : Int) = n) (h52 : (n == many) = true) : Ev C9 noO (.call 48 (args48 D) (hO D (D + 1) D D fr es l many (.st 1 rows (site 24 56) g) [(site 24 56, g)] false)) (.val unitA (hO D (D + 1) D D fr es l many (.st 1 rows (site 24 56) g) [(site 24 56, g)] true)) := by
  revert hf hcl hn h52
  match D, hD with
  | 0, _ => intro hf hcl hn h52; exact pb1_0 fr es l many rows g n hf hcl hn h52
  | 1, _ => intro hf hcl hn h52; exact pb1_1 fr es l many rows g n hf hcl hn h52
  | 2, _ => intro hf hcl hn h52; exact pb1_2 fr es l many rows g n hf hcl hn h52
  | 3, _ => intro hf hcl hn h52; exact pb1_3 fr es l many rows g n hf hcl hn h52
  | 4, _ => intro hf hcl hn h52; exact pb1_4 fr es l many rows g n hf hcl hn h52
  | 5, _ => intro hf hcl hn h52; exact pb1_5 fr es l many rows g n hf hcl hn h52
  | 6, _ => intro hf hcl hn h52; exact pb1_6 fr es l many rows g n hf hcl hn h52
  | 7, _ => intro hf hcl hn h52; exact pb1_7 fr es l many rows g n hf hcl hn h52
  | n + 8, h => omega

end Go.Ev

namespace Go.Ev
open Go Go.RowKit Go.Proofs

/-! ### what is told -/
def blockedB (m : MapE) (l o : List (Int × Int)) (c : Int × Int) : Bool := l.any fun y => !o.contains y && aheadI ((getKV y m).getD (0, 0)) ((getKV c m).getD (0, 0))
def selfL (m : MapE) (o : List (Int × Int)) : List (List (Int × Int)) := if fitsI m o = 0 then [o] else []
def tryC (m : MapE) (l : List (Int × Int)) (f : List (Int × Int) → List (List (Int × Int))) (o : List (Int × Int)) (c : Int × Int) : List (List (Int × Int)) :=
  if o.contains c then [] else if blockedB m l o c then [] else f (o ++ [c])
def everyL (m : MapE) (l : List (Int × Int)) : Nat → List (Int × Int) → List (List (Int × Int))
  | 0, o => selfL m o
  | n + 1, o => selfL m o ++ l.flatMap (tryC m l (everyL m l n) o)
/-- told behind others, at most so many -/
def told (many : Nat) (O E : List (List (Int × Int))) : List (List (Int × Int)) × Bool := ((O ++ E).take many, decide (many < O.length + E.length))
theorem told_brk {many : Nat} {O A : List (List (Int × Int))} (B : List (List (Int × Int))) (h : (told many O A).2 = true) : told many O (A ++ B) = told many O A := by
  simp only [told, decide_eq_true_eq] at h
  unfold told
  have e1 : (O ++ (A ++ B)).take many = (O ++ A).take many := by
    rw [← List.append_assoc, List.take_append_of_le_length (by simp; omega)]
  rw [e1]
  congr 1
  rw [decide_eq_true (by simp; omega), decide_eq_true h]
theorem told_go {many : Nat} {O A : List (List (Int × Int))} (B : List (List (Int × Int))) (h : (told many O A).2 = false) : (told many O A).1 = O ++ A ∧ (O ++ A).length ≤ many ∧ told many O (A ++ B) = told many (O ++ A) B := by
  simp only [told, decide_eq_false_iff_not] at h
  refine ⟨List.take_of_length_le (by simp; omega), by simp; omega, ?_⟩
  simp only [told, List.append_assoc, List.length_append, Nat.add_assoc]
theorem told_nil {many : Nat} {O : List (List (Int × Int))} (h : O.length ≤ many) : told many O [] = (O, false) := by
  simp only [told, List.append_nil, List.length_nil, Nat.add_zero]
  rw [List.take_of_length_le h, decide_eq_false (by omega)]
theorem told_len (many : Nat) (O E : List (List (Int × Int))) : (told many O E).1.length ≤ many := by simp [told]; omega

/-! ### in the heap -/
def dvO : List (Int × Int) → DV
  | [] => .v (.slice none 0 0)
  | c :: r => .sl 2 false (rowsP (c :: r))
def rowsO (O : List (List (Int × Int))) : List (List DV) := O.map fun o => [dvO o]
def OutRel (O : List (List (Int × Int))) (oa : AV) (tk : List (Nat × Nat)) : Prop :=
  (O = [] ∧ oa = .d (.v (.slice none 0 0)) ∧ tk = []) ∨ (O ≠ [] ∧ ∃ g, oa = .st 1 (rowsO O) (site 24 56) g ∧ tk = [(site 24 56, g)])
theorem OutRel.ok {O : List (List (Int × Int))} {oa : AV} {tk : List (Nat × Nat)} (h : OutRel O oa tk) : OutOK oa := by
  rcases h with ⟨_, h, _⟩ | ⟨_, g, h, _⟩
  · exact .inl h
  · exact .inr ⟨_, g, h⟩
def OrdIs (fr : Nat → Fr) (D : Nat) (o : List (Int × Int)) : Prop := o.length = D ∧ (0 < D → (fr D).r = rowsP o)
theorem rowC_pair (c : Int × Int) : pairOf (.agg (rowC c)) = some c := rfl
theorem OrdIs.calls {fr : Nat → Fr} {D : Nat} {o : List (Int × Int)} (h : OrdIs fr D o) : callsOf (ordP fr D) = some o := by
  obtain ⟨h1, h2⟩ := h
  cases D with
  | zero => obtain rfl : o = [] := List.eq_nil_of_length_eq_zero h1; rfl
  | succ D =>
    have h3 := h2 (by omega)
    show callsOf (.one (.sl 2 false (fr (D + 1)).r)) = some o
    rw [h3]; exact callsOf_sl false o
theorem OrdIs.contains {fr : Nat → Fr} {D : Nat} {o : List (Int × Int)} (h : OrdIs fr D o) (hD : D < 8) (c : Int × Int) : containsSpec [ordP fr D, .agg (rowC c)] = some [pbool (o.contains c)] := by
  obtain ⟨h1, h2⟩ := h
  cases D with
  | zero => obtain rfl : o = [] := List.eq_nil_of_length_eq_zero h1; rfl
  | succ D =>
    have h3 := h2 (by omega)
    show containsSpec [.one (.sl 2 false (fr (D + 1)).r), .agg (rowC c)] = _
    have e1 : allSome rowI (rowsP o) = some o := by unfold rowsP; exact allSome_map rowI_P o
    rw [h3]
    simp only [containsSpec, rowC_pair, e1]
    rw [if_pos (by omega)]
theorem OrdIs.fits {fr : Nat → Fr} {D : Nat} {o : List (Int × Int)} (h : OrdIs fr D o) (hD : D < 8) (m : MapE) : fitsSpec [.one (.mp (m.map entA)), ordP fr D] = some [pint (fitsI m o)] :=
  fits_at m h.calls (by have := h.1; omega)
theorem OrdIs.cl {fr : Nat → Fr} {D : Nat} {o : List (Int × Int)} (h : OrdIs fr D o) (hD : D < 8) : clP fr D := by
  obtain ⟨h1, h2⟩ := h
  cases D with
  | zero => exact rfl
  | succ D =>
    have h3 := h2 (by omega)
    show cloneSpec [.one (.sl 2 false (fr (D + 1)).r)] = some [.one (.sl 2 false (fr (D + 1)).r)]
    rw [h3]
    have hne : (rowsP o).isEmpty = false := by
      cases o with
      | nil => simp at h1
      | cons a r => rfl
    have hl : (rowsP o).length < 2 ^ 40 := by simp [rowsP]; omega
    simp only [cloneSpec, hl, if_true, hne]
theorem OrdIs.dv {fr : Nat → Fr} {D : Nat} {o : List (Int × Int)} (h : OrdIs fr D o) : ordD fr D = dvO o := by
  obtain ⟨h1, h2⟩ := h
  cases D with
  | zero => obtain rfl : o = [] := List.eq_nil_of_length_eq_zero h1; rfl
  | succ D =>
    have h3 := h2 (by omega)
    show DV.sl 2 false (fr (D + 1)).r = dvO o
    rw [h3]
    cases o with
    | nil => simp at h1
    | cons a r => rfl
theorem OrdIs.nr {fr : Nat → Fr} {D : Nat} {o : List (Int × Int)} (h : OrdIs fr D o) (c : Int × Int) : nr fr D c = rowsP (o ++ [c]) := by
  obtain ⟨h1, h2⟩ := h
  cases D with
  | zero => obtain rfl : o = [] := List.eq_nil_of_length_eq_zero h1; rfl
  | succ D =>
    have h3 := h2 (by omega)
    show (fr (D + 1)).r ++ [rowC c] = rowsP (o ++ [c])
    rw [h3]; simp [rowsP, rowC, di]
theorem OrdIs.nl {fr : Nat → Fr} {D : Nat} {o : List (Int × Int)} (h : OrdIs fr D o) : nl fr D = o.length := by
  obtain ⟨h1, h2⟩ := h
  cases D with
  | zero => obtain rfl : o = [] := List.eq_nil_of_length_eq_zero h1; rfl
  | succ D =>
    have h3 := h2 (by omega)
    show (fr (D + 1)).r.length = o.length
    rw [h3]; simp [rowsP]
theorem OrdIs.next {fr : Nat → Fr} {D : Nat} {o : List (Int × Int)} (h : OrdIs fr D o) (c : Int × Int) (i : Int) : OrdIs (updO fr D c i (Ev.nr fr D c)) (D + 1) (o ++ [c]) :=
  ⟨by simp [h.1], fun _ => by simp [updO, h.nr c]⟩
theorem OrdIs.upd {fr : Nat → Fr} {D : Nat} {o : List (Int × Int)} (h : OrdIs fr D o) (c : Int × Int) (i : Int) : OrdIs (updC fr D c i) D o :=
  ⟨h.1, fun hD => by simp [updC, h.2 hD]⟩

def xOf (b : Bool) : X := if b then .ret else .exit 0
/-- an iterator tells its own order first -/
theorem ev48_self {m : MapE} {l : List (Int × Int)} {many : Nat} (hmany : many ≤ 1000) {D : Nat} (hD : D < 8) {fr : Nat → Fr} {o : List (Int × Int)} (hO : OrdIs fr D o) {R : List (List (Int × Int))}
    (hLP : ∀ (O : List (List (Int × Int))) (oa : AV) (tk : List (Nat × Nat)), OutRel O oa tk → O.length ≤ many → ∃ oa' tk', OutRel (told many O R).1 oa' tk' ∧
      Ev C9 noO (.code 48 false (loopOf Try.prog 48 0) { σ := fS l 0 D, h := Ev.hO D (D + 1) (D + 1) D fr (m.map entA) l many oa tk false })
        (.code (xOf (told many O R).2) { σ := slots 47 [], h := Ev.hO D (D + 1) (D + 1) D fr (m.map entA) l many oa' tk' (told many O R).2 }))
    (O : List (List (Int × Int))) (oa : AV) (tk : List (Nat × Nat)) (hr : OutRel O oa tk) (hlen : O.length ≤ many) :
    ∃ oa' tk', OutRel (told many O (selfL m o ++ R)).1 oa' tk' ∧
      Ev C9 noO (.call 48 (args48 D) (Ev.hO D (D + 1) D D fr (m.map entA) l many oa tk false)) (.val unitA (Ev.hO D (D + 1) D D fr (m.map entA) l many oa' tk' (told many O (selfL m o ++ R)).2)) := by
  have hfit := hO.fits hD m
  have h21 : (((rowsP l).length : Nat) : Int) = ((l.length : Nat) : Int) := by simp [rowsP]
  by_cases hf : fitsI m o = 0
  · have es : selfL m o = [o] := by unfold selfL; rw [if_pos hf]
    rw [es]
    rw [hf] at hfit
    have hcl := hO.cl hD
    by_cases hfull : O.length = many
    · -- enough have been told
      have hbr : (told many O [o]).2 = true := by simp [told]; omega
      rw [told_brk R hbr]
      have e1 : told many O [o] = (O, true) := by
        simp only [told]
        rw [List.take_append_of_le_length (by omega), List.take_of_length_le (by omega), decide_eq_true (by simp; omega)]
      rw [e1]
      rcases hr with ⟨rfl, rfl, rfl⟩ | ⟨hne, g, rfl, rfl⟩
      · exact ⟨_, _, .inl ⟨rfl, rfl, rfl⟩, gpb0 D hD fr _ l many hfit hcl (by simp at hfull; subst hfull; rfl)⟩
      · exact ⟨_, _, .inr ⟨hne, g, rfl, rfl⟩, gpb1 D hD fr _ l many (rowsO O) g _ hfit hcl rfl (by simp [rowsO]; omega)⟩
    · have hbr : (told many O [o]).2 = false := by simp [told]; omega
      obtain ⟨g1, g2, g3⟩ := told_go R hbr
      rw [g3]
      have hd := hO.dv
      rcases hr with ⟨rfl, rfl, rfl⟩ | ⟨hne, g, rfl, rfl⟩
      · have hz : ((0 : Int) == (many : Nat)) = false := by simp at hfull; simp; omega
        obtain ⟨oa', tk', h1, h2⟩ := hLP [o] (.st 1 [[ordD fr D]] (site 24 56) 1) [(site 24 56, 1)] (.inr ⟨by simp, 1, by rw [hd]; rfl, rfl⟩) (by simpa using g2)
        refine ⟨oa', tk', h1, ?_⟩
        show Ev C9 noO _ (.val unitA (Ev.hO D (D + 1) D D fr (m.map entA) l many oa' tk' (told many [o] R).2))
        cases hb : (told many [o] R).2 with
        | true => rw [hb] at h2; exact gpy0r D hD fr _ l many oa' h1.ok tk' hfit hcl hz h21 h2
        | false => rw [hb] at h2; exact gpy0e D hD fr _ l many oa' h1.ok tk' hfit hcl hz h21 h2
      · have hz : (((rowsO O).length : Nat) : Int) = ((O.length : Nat) : Int) := by simp [rowsO]
        have hz2 : (((O.length : Nat) : Int) == (many : Nat)) = false := by simp; omega
        have hfp : false = false ∧ g = g ∧ fitsP (rowsO O).length 1 24 := ⟨rfl, rfl, by unfold fitsP; simp [rowsO]; omega⟩
        obtain ⟨oa', tk', h1, h2⟩ := hLP (O ++ [o]) (.st 1 (rowsO O ++ [[ordD fr D]]) (site 24 56) (g + 1 + 1)) [(site 24 56, g + 1 + 1)] (.inr ⟨by simp, g + 1 + 1, by rw [hd]; simp [rowsO], rfl⟩) g2
        refine ⟨oa', tk', h1, ?_⟩
        cases hb : (told many (O ++ [o]) R).2 with
        | true => rw [hb] at h2; exact gpy1r D hD fr _ l many (rowsO O) g _ oa' h1.ok tk' hfit hcl hz hz2 hfp h21 h2
        | false => rw [hb] at h2; exact gpy1e D hD fr _ l many (rowsO O) g _ oa' h1.ok tk' hfit hcl hz hz2 hfp h21 h2
  · have es : selfL m o = [] := by unfold selfL; rw [if_neg hf]
    rw [es, List.nil_append]
    obtain ⟨oa', tk', h1, h2⟩ := hLP O oa tk hr hlen
    refine ⟨oa', tk', h1, ?_⟩
    have h0 : (fitsI m o == 0) = false := by simpa using hf
    cases hb : (told many O R).2 with
    | true => rw [hb] at h2; exact gpnr D hD fr _ l many oa tk _ oa' h1.ok tk' hfit h0 h21 h2
    | false => rw [hb] at h2; exact gpne D hD fr _ l many oa tk _ oa' h1.ok tk' hfit h0 h21 h2

section
variable {m : MapE} {l : List (Int × Int)} (hl7 : l.length ≤ 7) {many : Nat}
include hl7
theorem ix66 {D : Nat} (hD : D < 8) {fr : Nat → Fr} {o : List (Int × Int)} (hO : OrdIs fr D o) {oa : AV} (ho : OutOK oa) (tk : List (Nat × Nat)) (mn : Int) : ∀ rest pre : List (Int × Int), pre ++ rest = l →
    (rest.any (fun y => !o.contains y && aheadI ((getKV y m).getD (0, 0)) ((getKV (fr D).c m).getD (0, 0))) = false ∧
      Ev C9 noO (.code 66 false (loopOf Try.prog 66 0) { σ := slots 19 [(0, lA l), (1, blkF D), (7, vi ((l.length : Nat) : Int)), (8, vi (pre.length : Nat))], h := Ev.hO D (D + 1) (D + 1) (D + 1) fr (m.map entA) l mn oa tk false })
        (.code (.exit 0) { σ := slots 19 [], h := Ev.hO D (D + 1) (D + 1) (D + 1) fr (m.map entA) l mn oa tk false })) ∨
    (rest.any (fun y => !o.contains y && aheadI ((getKV y m).getD (0, 0)) ((getKV (fr D).c m).getD (0, 0))) = true ∧ ∃ i : Nat,
      Ev C9 noO (.code 66 false (loopOf Try.prog 66 0) { σ := slots 19 [(0, lA l), (1, blkF D), (7, vi ((l.length : Nat) : Int)), (8, vi (pre.length : Nat))], h := Ev.hO D (D + 1) (D + 1) (D + 1) fr (m.map entA) l mn oa tk false })
        (.code .ret { σ := slots 19 [(4, vi (i : Nat))], h := Ev.hO D (D + 1) (D + 1) (D + 1) fr (m.map entA) l mn oa tk false }))
  | [], pre, h => .inl ⟨rfl, gr0 D hD fr _ l mn oa tk _ (dge (by subst h; simp))⟩
  | y :: rest, pre, h => by
    have hlt := pre_lt h
    have hrow := row_at (g := rowC) h
    have ih := ix66 hD hO ho tk mn rest (pre ++ [y]) (pre_snoc h)
    simp only [len_snoc] at ih
    have hc := hO.contains hD y
    have h4 := look59 (C := C9) rfl y m
    have h5 := look59 (C := C9) rfl (fr D).c m
    have hw : wr64 ((pre.length : Nat) + 1) = ((pre.length + 1 : Nat) : Int) := wrap_succ (by omega)
    rw [List.any_cons]
    cases hoc : o.contains y with
    | true =>
      rw [hoc] at hc
      simp only [Bool.not_true, Bool.false_and, Bool.false_or]
      rcases ih with ⟨h1, h2⟩ | ⟨h1, i, h2⟩
      · exact .inl ⟨h1, gr1 D hD fr _ l mn oa tk _ _ y ho _ _ (dlt hlt) hrow hc hw h2⟩
      · exact .inr ⟨h1, i, gr1 D hD fr _ l mn oa tk _ _ y ho _ _ (dlt hlt) hrow hc hw h2⟩
    | false =>
      rw [hoc] at hc
      simp only [Bool.not_false, Bool.true_and]
      have ha := ahead_at ((getKV y m).getD (0, 0)) ((getKV (fr D).c m).getD (0, 0))
      cases hah : aheadI ((getKV y m).getD (0, 0)) ((getKV (fr D).c m).getD (0, 0)) with
      | true =>
        rw [hah] at ha
        exact .inr ⟨rfl, pre.length, gr3 D hD fr _ l mn oa tk _ 0 y ho _ _ (dlt hlt) hrow hc h4 h5 ha⟩
      | false =>
        rw [hah] at ha
        simp only [Bool.false_or]
        rcases ih with ⟨h1, h2⟩ | ⟨h1, i, h2⟩
        · exact .inl ⟨h1, gr2 D hD fr _ l mn oa tk _ _ y ho _ _ _ _ (dlt hlt) hrow hc h4 h5 ha hw h2⟩
        · exact .inr ⟨h1, i, gr2 D hD fr _ l mn oa tk _ _ y ho _ _ _ _ (dlt hlt) hrow hc h4 h5 ha hw h2⟩
theorem cf_at {D : Nat} (hD : D < 8) {fr : Nat → Fr} {o : List (Int × Int)} (hO : OrdIs fr D o) {oa : AV} (ho : OutOK oa) (tk : List (Nat × Nat)) (mn : Int) :
    Ev C9 noO (.call 52 [lA l, blkF D] (Ev.hO D (D + 1) (D + 1) (D + 1) fr (m.map entA) l mn oa tk false)) (.val (vb (blockedB m l o (fr D).c)) (Ev.hO D (D + 1) (D + 1) (D + 1) fr (m.map entA) l mn oa tk false)) := by
  have hlen : (((rowsP l).length : Nat) : Int) = ((l.length : Nat) : Int) := by simp [rowsP]
  unfold blockedB
  rcases ix66 (m := m) hl7 hD hO ho tk mn l [] rfl with ⟨h1, h2⟩ | ⟨h1, i, h2⟩
  · rw [h1]; exact gcf_n D hD fr _ l mn oa tk hlen h2
  · rw [h1]; exact gcf_y D hD fr _ l mn oa tk _ hlen h2 (decide_eq_true (by omega))
theorem lp48 {D : Nat} (hD : D < 8) {fr : Nat → Fr} {o : List (Int × Int)} (hO : OrdIs fr D o) (f : List (Int × Int) → List (List (Int × Int)))
    (hE : ∀ (c : Int × Int) (i : Int) (O : List (List (Int × Int))) (oa : AV) (tk : List (Nat × Nat)), c ∈ l → o.contains c = false → OutRel O oa tk → O.length ≤ many → D < 7 ∧ ∃ oa' tk', OutRel (told many O (f (o ++ [c]))).1 oa' tk' ∧
      Ev C9 noO (.call 48 (args48 (D + 1)) (Ev.hO (D + 1) (D + 2) (D + 1) (D + 1) (updO fr D c i (nr fr D c)) (m.map entA) l many oa tk false))
        (.val unitA (Ev.hO (D + 1) (D + 2) (D + 1) (D + 1) (updO fr D c i (nr fr D c)) (m.map entA) l many oa' tk' (told many O (f (o ++ [c]))).2))) :
    ∀ (rest pre : List (Int × Int)) (O : List (List (Int × Int))) (oa : AV) (tk : List (Nat × Nat)), pre ++ rest = l → OutRel O oa tk → O.length ≤ many →
    ∃ oa' tk', OutRel (told many O (rest.flatMap (tryC m l f o))).1 oa' tk' ∧
      Ev C9 noO (.code 48 false (loopOf Try.prog 48 0) { σ := fS l (pre.length : Nat) D, h := Ev.hO D (D + 1) (D + 1) D fr (m.map entA) l many oa tk false })
        (.code (xOf (told many O (rest.flatMap (tryC m l f o))).2) { σ := slots 47 [], h := Ev.hO D (D + 1) (D + 1) D fr (m.map entA) l many oa' tk' (told many O (rest.flatMap (tryC m l f o))).2 })
  | [], pre, O, oa, tk, h, hr, hlen => by
    refine ⟨oa, tk, ?_, ?_⟩
    · rw [List.flatMap_nil, told_nil hlen]; exact hr
    · rw [List.flatMap_nil, told_nil hlen]
      exact gq0 D hD fr _ l many oa tk _ (dge (by subst h; simp))
  | c :: rest, pre, O, oa, tk, h, hr, hlen => by
    have hlt := pre_lt h
    have hrow := row_at (g := rowC) h
    have ih := fun O oa tk hr hlen => lp48 hD hO f hE rest (pre ++ [c]) O oa tk (pre_snoc h) hr hlen
    simp only [len_snoc] at ih
    have hw : wr64 ((pre.length : Nat) + 1) = ((pre.length + 1 : Nat) : Int) := wrap_succ (by omega)
    have hc := hO.contains hD c
    have hcm : c ∈ l := by rw [← h]; simp
    rw [List.flatMap_cons]
    have hcf := cf_at (m := m) hl7 hD (hO.upd c (pre.length : Nat)) hr.ok tk many
    have ecc : (updC fr D c (pre.length : Nat) D).c = c := by simp [updC]
    rw [ecc] at hcf
    cases hoc : o.contains c with
    | true =>
      rw [hoc] at hc
      have e : tryC m l f o c = [] := by simp only [tryC, hoc, if_true]
      rw [e, List.nil_append]
      obtain ⟨oa', tk', h1, h2⟩ := ih O oa tk hr hlen
      exact ⟨oa', tk', h1, gq1 D hD fr _ l many oa hr.ok tk _ _ c _ _ (dlt hlt) hrow hc hw h2⟩
    | false =>
      rw [hoc] at hc
      cases hb : blockedB m l o c with
      | true =>
        rw [hb] at hcf
        have e : tryC m l f o c = [] := by simp only [tryC, hoc, hb]; rfl
        rw [e, List.nil_append]
        obtain ⟨oa', tk', h1, h2⟩ := ih O oa tk hr hlen
        exact ⟨oa', tk', h1, gq2 D hD fr _ l many oa hr.ok tk _ _ c _ _ (dlt hlt) hrow hc hcf hw h2⟩
      | false =>
        rw [hb] at hcf
        have e : tryC m l f o c = f (o ++ [c]) := by simp only [tryC, hoc, hb]; rfl
        rw [e]
        obtain ⟨hD7, oa1, tk1, h1, h2⟩ := hE c (pre.length : Nat) O oa tk hcm hoc hr hlen
        have hfp : false = false ∧ fitsP (nl fr D) 1 16 := ⟨rfl, by unfold fitsP; rw [hO.nl, hO.1]; omega⟩
        cases hbr : (told many O (f (o ++ [c]))).2 with
        | true =>
          rw [hbr] at h2
          rw [told_brk _ hbr]
          refine ⟨oa1, tk1, h1, ?_⟩
          rw [hbr]
          exact gq4 D hD7 fr _ l many oa oa1 h1.ok tk tk1 _ 0 c .ret { σ := [], h := {} } (dlt hlt) hrow hc hcf hfp h2
        | false =>
          rw [hbr] at h2
          obtain ⟨g1, g2, g3⟩ := told_go (rest.flatMap (tryC m l f o)) hbr
          rw [g1] at h1
          rw [g3]
          obtain ⟨oa', tk', h3, h4⟩ := ih (O ++ f (o ++ [c])) oa1 tk1 h1 g2
          exact ⟨oa', tk', h3, gq3 D hD7 fr _ l many oa oa1 h1.ok tk tk1 _ _ c _ _ (dlt hlt) hrow hc hcf hfp h2 hw h4⟩
theorem ev48 (hmany : many ≤ 1000) : ∀ (n D : Nat), D + n = 7 → ∀ (fr : Nat → Fr) (o : List (Int × Int)) (O : List (List (Int × Int))) (oa : AV) (tk : List (Nat × Nat)), OrdIs fr D o → o.Nodup → (∀ x ∈ o, x ∈ l) → OutRel O oa tk → O.length ≤ many →
    ∃ oa' tk', OutRel (told many O (everyL m l n o)).1 oa' tk' ∧
      Ev C9 noO (.call 48 (args48 D) (Ev.hO D (D + 1) D D fr (m.map entA) l many oa tk false)) (.val unitA (Ev.hO D (D + 1) D D fr (m.map entA) l many oa' tk' (told many O (everyL m l n o)).2)) := by
  intro n
  induction n with
  | zero =>
    intro D hDn fr o O oa tk hO hnd hsub hr hlen
    have hD : D < 8 := by omega
    have hall : ∀ c ∈ l, o.contains c = true := by
      intro c hc
      cases e : o.contains c with
      | true => rfl
      | false =>
        have hni : c ∉ o := fun h => by rw [List.contains_iff_mem.2 h] at e; cases e
        have := len_of_sub (c :: o) l (List.nodup_cons.2 ⟨hni, hnd⟩) (fun x hx => by
          rcases List.mem_cons.1 hx with rfl | hx
          · exact hc
          · exact hsub x hx)
        have := hO.1
        simp at *
        omega
    have hfl : ∀ rest : List (Int × Int), (∀ c ∈ rest, c ∈ l) → rest.flatMap (tryC m l (fun _ => []) o) = [] := by
      intro rest
      induction rest with
      | nil => intro _; rfl
      | cons c r ih =>
        intro h
        rw [List.flatMap_cons, ih fun x hx => h x (by simp [hx])]
        have := hall c (h c (by simp))
        simp only [tryC, this, if_true, List.append_nil]
    have hLP := lp48 (m := m) hl7 hD hO (fun _ => []) (many := many) (fun c i O oa tk hc hoc => by rw [hall c hc] at hoc; cases hoc) l []
    have key := ev48_self hmany hD hO (fun O oa tk hr hlen => hLP O oa tk rfl hr hlen) O oa tk hr hlen
    rw [hfl l fun c hc => hc, List.append_nil] at key
    exact key
  | succ n ih =>
    intro D hDn fr o O oa tk hO hnd hsub hr hlen
    have hD : D < 8 := by omega
    have hLP := lp48 (m := m) hl7 hD hO (everyL m l n) (many := many) (fun c i O oa tk hc hoc hr hlen => by
      have hni : c ∉ o := fun h => by rw [List.contains_iff_mem.2 h] at hoc; cases hoc
      refine ⟨by omega, ?_⟩
      exact ih (D + 1) (by omega) (updO fr D c i (nr fr D c)) (o ++ [c]) O oa tk (hO.next c i)
        (by rw [List.nodup_append]; exact ⟨hnd, by simp, fun a ha b hb e => by simp at hb; subst hb; exact hni (by rw [← e]; exact ha)⟩)
        (fun x hx => by rcases List.mem_append.1 hx with hx | hx; exact hsub x hx; simp at hx; subst hx; exact hc) hr hlen) l []
    exact ev48_self hmany hD hO (fun O oa tk hr hlen => hLP O oa tk rfl hr hlen) O oa tk hr hlen
end

end Go.Ev

namespace Go.Ev
open Go Go.RowKit Go.Proofs

theorem odne (fu : Bool) (r : List (List DV)) (sp : List S4) (es : List (Value × Bool × List DV)) (many : Int) (n : Nat) (l l1 : List (Int × Int)) (fr : Nat → Fr) 
    (h1 : rightSpec [.one (.sl 7 fu r)] = some [pbool true]) (h2 : metSpec [.one (.sl 7 fu r)] = some [.one (.mp es)]) (h3 : decide (many < 0) = false) (h4 : decide (many > 1000) = false) (h5 : decide ((es.length : Int) > 7) = false)
    (h6 : spansSpecP [.one (.sl 7 fu r)] = some [.one (.sl 4 false (rowsS sp))]) (h7 : ((rowsS sp).length : Int) = ((sp.length : Nat) : Int))
    (h8 : Ev C9 noO (.code 24 false (loopOf Try.prog 24 0) (s24 es many sp)) (.code (.exit 1) (e24 es many n l)))
    (h9 : Ev C9 noO (.call 36 [lS n, cmpF] (hL many (.d (.v (.slice none 0 0))) (pcells l))) (.val unitA (hL many (.d (.v (.slice none 0 0))) (pcells l1))))
    (h10 : freeze1 (hL many (.d (.v (.slice none 0 0))) (pcells l1)) (lS n) = some (.one (.sl 2 false (rowsP l1)), h24 many (.d (.v (.slice none 0 0))) [(site 24 41, 1, [.cells (pcells l1) true])] []))
    (h11 : Ev C9 noO (.call 48 (args48 0) (hO 0 1 0 0 fr es l1 many (.d (.v (.slice none 0 0))) [] false)) (.val unitA (hO 0 1 0 0 fr es l1 many (.d (.v (.slice none 0 0))) [] false))) :
    Ev C9 noO (.call 24 [.d (.sl 7 fu r), vi many] {}) (.val (.tup [(.d (.v (.slice none 0 0))), vi 0]) (h24 many (.d (.v (.slice none 0 0))) [] [])) :=
  symCT_ev (n := 80) (sc := [(site 24 12, Dec.prim [pbool true]), (site 24 15, Dec.prim [.one (.mp es)]), (site 24 18, Dec.b false), (site 24 21, Dec.b false), (site 24 26, Dec.b false), (site 24 28, Dec.prim [.one (.sl 4 false (rowsS sp))]), (site 24 29, Dec.int (sp.length : Nat)), (site 24 8001, Dec.loop [3, 4, 6, 7, 28, 29, 30] (X.exit 1) (e24 es many n l)),
    (site 24 44, Dec.call unitA (hL many (.d (.v (.slice none 0 0))) (pcells l1))), (site 24 8005, Dec.frz 7 (.one (.sl 2 false (rowsP l1))) (h24 many (.d (.v (.slice none 0 0))) [(site 24 41, 1, [.cells (pcells l1) true])] []) (site 24 41) 0), (site 24 8003, Dec.rng [3, 4, 47] unitA (hO 0 1 0 0 fr es l1 many (.d (.v (.slice none 0 0))) [] false))])
    (keep := [4, 5]) (L := [(site 24 41, 0), (loopSite 24, 0), (site 40 3, 0), (site 40 4, 0), (site 40 5, 0)]) (sc' := []) (by kernel_rfl) (AllP_cons h1 (AllP_cons h2 (AllP_cons h3 (AllP_cons h4 (AllP_cons h5 (AllP_cons h6 (AllP_cons h7 (AllP_cons h8 (AllP_cons h9 (AllP_cons h10 (AllP_cons (rfl : true = true) (AllP_cons h11 (AllP_cons (rfl : true = true) (AllP_cons (rfl : true = true) (AllP_cons (rfl : true = true) AllP_nil)))))))))))))))
theorem odnr (fu : Bool) (r : List (List DV)) (sp : List S4) (es : List (Value × Bool × List DV)) (many : Int) (n : Nat) (l l1 : List (Int × Int)) (fr : Nat → Fr) 
    (h1 : rightSpec [.one (.sl 7 fu r)] = some [pbool true]) (h2 : metSpec [.one (.sl 7 fu r)] = some [.one (.mp es)]) (h3 : decide (many < 0) = false) (h4 : decide (many > 1000) = false) (h5 : decide ((es.length : Int) > 7) = false)
    (h6 : spansSpecP [.one (.sl 7 fu r)] = some [.one (.sl 4 false (rowsS sp))]) (h7 : ((rowsS sp).length : Int) = ((sp.length : Nat) : Int))
    (h8 : Ev C9 noO (.code 24 false (loopOf Try.prog 24 0) (s24 es many sp)) (.code (.exit 1) (e24 es many n l)))
    (h9 : Ev C9 noO (.call 36 [lS n, cmpF] (hL many (.d (.v (.slice none 0 0))) (pcells l))) (.val unitA (hL many (.d (.v (.slice none 0 0))) (pcells l1))))
    (h10 : freeze1 (hL many (.d (.v (.slice none 0 0))) (pcells l1)) (lS n) = some (.one (.sl 2 false (rowsP l1)), h24 many (.d (.v (.slice none 0 0))) [(site 24 41, 1, [.cells (pcells l1) true])] []))
    (h11 : Ev C9 noO (.call 48 (args48 0) (hO 0 1 0 0 fr es l1 many (.d (.v (.slice none 0 0))) [] false)) (.val unitA (hO 0 1 0 0 fr es l1 many (.d (.v (.slice none 0 0))) [] true))) :
    Ev C9 noO (.call 24 [.d (.sl 7 fu r), vi many] {}) (.val (.tup [(.d (.v (.slice none 0 0))), vi 0]) (h24 many (.d (.v (.slice none 0 0))) [] [])) :=
  symCT_ev (n := 80) (sc := [(site 24 12, Dec.prim [pbool true]), (site 24 15, Dec.prim [.one (.mp es)]), (site 24 18, Dec.b false), (site 24 21, Dec.b false), (site 24 26, Dec.b false), (site 24 28, Dec.prim [.one (.sl 4 false (rowsS sp))]), (site 24 29, Dec.int (sp.length : Nat)), (site 24 8001, Dec.loop [3, 4, 6, 7, 28, 29, 30] (X.exit 1) (e24 es many n l)),
    (site 24 44, Dec.call unitA (hL many (.d (.v (.slice none 0 0))) (pcells l1))), (site 24 8005, Dec.frz 7 (.one (.sl 2 false (rowsP l1))) (h24 many (.d (.v (.slice none 0 0))) [(site 24 41, 1, [.cells (pcells l1) true])] []) (site 24 41) 0), (site 24 8003, Dec.rng [3, 4, 47] unitA (hO 0 1 0 0 fr es l1 many (.d (.v (.slice none 0 0))) [] true))])
    (keep := [4, 5]) (L := [(site 24 41, 0), (loopSite 24, 0), (site 40 3, 0), (site 40 4, 0), (site 40 5, 0)]) (sc' := []) (by kernel_rfl) (AllP_cons h1 (AllP_cons h2 (AllP_cons h3 (AllP_cons h4 (AllP_cons h5 (AllP_cons h6 (AllP_cons h7 (AllP_cons h8 (AllP_cons h9 (AllP_cons h10 (AllP_cons (rfl : true = true) (AllP_cons h11 (AllP_cons (rfl : true = true) (AllP_cons (rfl : true = true) (AllP_cons (rfl : true = true) AllP_nil)))))))))))))))
theorem odse (fu : Bool) (r : List (List DV)) (sp : List S4) (es : List (Value × Bool × List DV)) (many : Int) (n : Nat) (l l1 : List (Int × Int)) (fr : Nat → Fr) (rows : List (List DV)) (g : Nat) 
    (h1 : rightSpec [.one (.sl 7 fu r)] = some [pbool true]) (h2 : metSpec [.one (.sl 7 fu r)] = some [.one (.mp es)]) (h3 : decide (many < 0) = false) (h4 : decide (many > 1000) = false) (h5 : decide ((es.length : Int) > 7) = false)
    (h6 : spansSpecP [.one (.sl 7 fu r)] = some [.one (.sl 4 false (rowsS sp))]) (h7 : ((rowsS sp).length : Int) = ((sp.length : Nat) : Int))
    (h8 : Ev C9 noO (.code 24 false (loopOf Try.prog 24 0) (s24 es many sp)) (.code (.exit 1) (e24 es many n l)))
    (h9 : Ev C9 noO (.call 36 [lS n, cmpF] (hL many (.d (.v (.slice none 0 0))) (pcells l))) (.val unitA (hL many (.d (.v (.slice none 0 0))) (pcells l1))))
    (h10 : freeze1 (hL many (.d (.v (.slice none 0 0))) (pcells l1)) (lS n) = some (.one (.sl 2 false (rowsP l1)), h24 many (.d (.v (.slice none 0 0))) [(site 24 41, 1, [.cells (pcells l1) true])] []))
    (h11 : Ev C9 noO (.call 48 (args48 0) (hO 0 1 0 0 fr es l1 many (.d (.v (.slice none 0 0))) [] false)) (.val unitA (hO 0 1 0 0 fr es l1 many (.st 1 rows (site 24 56) g) [(site 24 56, g)] false))) :
    Ev C9 noO (.call 24 [.d (.sl 7 fu r), vi many] {}) (.val (.tup [(.st 1 rows (site 24 56) g), vi 0]) (h24 many (.st 1 rows (site 24 56) g) [] [(site 24 56, g)])) :=
  symCT_ev (n := 80) (sc := [(site 24 12, Dec.prim [pbool true]), (site 24 15, Dec.prim [.one (.mp es)]), (site 24 18, Dec.b false), (site 24 21, Dec.b false), (site 24 26, Dec.b false), (site 24 28, Dec.prim [.one (.sl 4 false (rowsS sp))]), (site 24 29, Dec.int (sp.length : Nat)), (site 24 8001, Dec.loop [3, 4, 6, 7, 28, 29, 30] (X.exit 1) (e24 es many n l)),
    (site 24 44, Dec.call unitA (hL many (.d (.v (.slice none 0 0))) (pcells l1))), (site 24 8005, Dec.frz 7 (.one (.sl 2 false (rowsP l1))) (h24 many (.d (.v (.slice none 0 0))) [(site 24 41, 1, [.cells (pcells l1) true])] []) (site 24 41) 0), (site 24 8003, Dec.rng [3, 4, 47] unitA (hO 0 1 0 0 fr es l1 many (.st 1 rows (site 24 56) g) [(site 24 56, g)] false))])
    (keep := [4, 5]) (L := [(site 24 41, 0), (loopSite 24, 0), (site 40 3, 0), (site 40 4, 0), (site 40 5, 0)]) (sc' := []) (by kernel_rfl) (AllP_cons h1 (AllP_cons h2 (AllP_cons h3 (AllP_cons h4 (AllP_cons h5 (AllP_cons h6 (AllP_cons h7 (AllP_cons h8 (AllP_cons h9 (AllP_cons h10 (AllP_cons (rfl : true = true) (AllP_cons h11 (AllP_cons (rfl : true = true) (AllP_cons (rfl : true = true) (AllP_cons (rfl : true = true) AllP_nil)))))))))))))))
theorem odsr (fu : Bool) (r : List (List DV)) (sp : List S4) (es : List (Value × Bool × List DV)) (many : Int) (n : Nat) (l l1 : List (Int × Int)) (fr : Nat → Fr) (rows : List (List DV)) (g : Nat) 
    (h1 : rightSpec [.one (.sl 7 fu r)] = some [pbool true]) (h2 : metSpec [.one (.sl 7 fu r)] = some [.one (.mp es)]) (h3 : decide (many < 0) = false) (h4 : decide (many > 1000) = false) (h5 : decide ((es.length : Int) > 7) = false)
    (h6 : spansSpecP [.one (.sl 7 fu r)] = some [.one (.sl 4 false (rowsS sp))]) (h7 : ((rowsS sp).length : Int) = ((sp.length : Nat) : Int))
    (h8 : Ev C9 noO (.code 24 false (loopOf Try.prog 24 0) (s24 es many sp)) (.code (.exit 1) (e24 es many n l)))
    (h9 : Ev C9 noO (.call 36 [lS n, cmpF] (hL many (.d (.v (.slice none 0 0))) (pcells l))) (.val unitA (hL many (.d (.v (.slice none 0 0))) (pcells l1))))
    (h10 : freeze1 (hL many (.d (.v (.slice none 0 0))) (pcells l1)) (lS n) = some (.one (.sl 2 false (rowsP l1)), h24 many (.d (.v (.slice none 0 0))) [(site 24 41, 1, [.cells (pcells l1) true])] []))
    (h11 : Ev C9 noO (.call 48 (args48 0) (hO 0 1 0 0 fr es l1 many (.d (.v (.slice none 0 0))) [] false)) (.val unitA (hO 0 1 0 0 fr es l1 many (.st 1 rows (site 24 56) g) [(site 24 56, g)] true))) :
    Ev C9 noO (.call 24 [.d (.sl 7 fu r), vi many] {}) (.val (.tup [(.st 1 rows (site 24 56) g), vi 0]) (h24 many (.st 1 rows (site 24 56) g) [] [(site 24 56, g)])) :=
  symCT_ev (n := 80) (sc := [(site 24 12, Dec.prim [pbool true]), (site 24 15, Dec.prim [.one (.mp es)]), (site 24 18, Dec.b false), (site 24 21, Dec.b false), (site 24 26, Dec.b false), (site 24 28, Dec.prim [.one (.sl 4 false (rowsS sp))]), (site 24 29, Dec.int (sp.length : Nat)), (site 24 8001, Dec.loop [3, 4, 6, 7, 28, 29, 30] (X.exit 1) (e24 es many n l)),
    (site 24 44, Dec.call unitA (hL many (.d (.v (.slice none 0 0))) (pcells l1))), (site 24 8005, Dec.frz 7 (.one (.sl 2 false (rowsP l1))) (h24 many (.d (.v (.slice none 0 0))) [(site 24 41, 1, [.cells (pcells l1) true])] []) (site 24 41) 0), (site 24 8003, Dec.rng [3, 4, 47] unitA (hO 0 1 0 0 fr es l1 many (.st 1 rows (site 24 56) g) [(site 24 56, g)] true))])
    (keep := [4, 5]) (L := [(site 24 41, 0), (loopSite 24, 0), (site 40 3, 0), (site 40 4, 0), (site 40 5, 0)]) (sc' := []) (by kernel_rfl) (AllP_cons h1 (AllP_cons h2 (AllP_cons h3 (AllP_cons h4 (AllP_cons h5 (AllP_cons h6 (AllP_cons h7 (AllP_cons h8 (AllP_cons h9 (AllP_cons h10 (AllP_cons (rfl : true = true) (AllP_cons h11 (AllP_cons (rfl : true = true) (AllP_cons (rfl : true = true) (AllP_cons (rfl : true = true) AllP_nil)))))))))))))))
theorem ozNy (many : Int) (h1 : decide (many < 0) = false) (h2 : decide (many > 1000) = false) (h3 : ((0 : Int) == many) = true) :
    Ev C9 noO (.call 24 [.d (.v (.slice none 0 0)), vi many] {}) (.val (.tup [(.d (.v (.slice none 0 0))), vi 0]) (h24 many (.d (.v (.slice none 0 0))) [] [])) :=
  symCT_ev (n := 300) (sc := [(site 24 18, Dec.b false), (site 24 21, Dec.b false), (site 24 52, Dec.b true)]) (keep := [4, 5]) (L := [(loopSite 24, 0), (site 40 3, 0), (site 40 4, 0), (site 40 5, 0), (site 48 4, 0)]) (sc' := []) (by kernel_rfl) (AllP_cons h1 (AllP_cons h2 (AllP_cons h3 (AllP_cons (rfl : true = true) (AllP_cons (rfl : true = true) (AllP_cons (rfl : true = true) AllP_nil))))))
theorem ozNn (many : Int) (h1 : decide (many < 0) = false) (h2 : decide (many > 1000) = false) (h3 : ((0 : Int) == many) = false) :
    Ev C9 noO (.call 24 [.d (.v (.slice none 0 0)), vi many] {}) (.val (.tup [(.st 1 [[.v (.slice none 0 0)]] (site 24 56) 1), vi 0]) (h24 many (.st 1 [[.v (.slice none 0 0)]] (site 24 56) 1) [] [(site 24 56, 1)])) :=
  symCT_ev (n := 300) (sc := [(site 24 18, Dec.b false), (site 24 21, Dec.b false), (site 24 52, Dec.b false)]) (keep := [4, 5]) (L := [(loopSite 24, 0), (site 40 3, 0), (site 40 4, 0), (site 40 5, 0), (site 48 4, 0)]) (sc' := []) (by kernel_rfl) (AllP_cons h1 (AllP_cons h2 (AllP_cons h3 (AllP_cons (rfl : true = true) (AllP_cons (rfl : true = true) (AllP_cons (rfl : true = true) AllP_nil))))))
theorem ozNa (many : Int) (h1 : decide (many < 0) = true) :
    Ev C9 noO (.call 24 [.d (.v (.slice none 0 0)), vi many] {}) (.val (.tup [(.d (.v (.slice none 0 0))), vi 1]) (h24 many (.d (.v (.slice none 0 0))) [] [])) :=
  sym_ev 80 _ [(site 24 18, Dec.b true)] _ [] _ (by kernel_rfl) (AllP_cons h1 AllP_nil)
theorem ozNb (many : Int) (h1 : decide (many < 0) = false) (h2 : decide (many > 1000) = true) :
    Ev C9 noO (.call 24 [.d (.v (.slice none 0 0)), vi many] {}) (.val (.tup [(.d (.v (.slice none 0 0))), vi 1]) (h24 many (.d (.v (.slice none 0 0))) [] [])) :=
  sym_ev 80 _ [(site 24 18, Dec.b false), (site 24 21, Dec.b true)] _ [] _ (by kernel_rfl) (AllP_cons h1 (AllP_cons h2 AllP_nil))
theorem ozEy (fu : Bool) (many : Int) (h1 : decide (many < 0) = false) (h2 : decide (many > 1000) = false) (h3 : ((0 : Int) == many) = true) :
    Ev C9 noO (.call 24 [.d (.sl 7 fu []), vi many] {}) (.val (.tup [(.d (.v (.slice none 0 0))), vi 0]) (h24 many (.d (.v (.slice none 0 0))) [] [])) :=
  symCT_ev (n := 300) (sc := [(site 24 18, Dec.b false), (site 24 21, Dec.b false), (site 24 52, Dec.b true)]) (keep := [4, 5]) (L := [(loopSite 24, 0), (site 40 3, 0), (site 40 4, 0), (site 40 5, 0), (site 48 4, 0)]) (sc' := []) (by kernel_rfl) (AllP_cons h1 (AllP_cons h2 (AllP_cons h3 (AllP_cons (rfl : true = true) (AllP_cons (rfl : true = true) (AllP_cons (rfl : true = true) AllP_nil))))))
theorem ozEn (fu : Bool) (many : Int) (h1 : decide (many < 0) = false) (h2 : decide (many > 1000) = false) (h3 : ((0 : Int) == many) = false) :
    Ev C9 noO (.call 24 [.d (.sl 7 fu []), vi many] {}) (.val (.tup [(.st 1 [[.v (.slice none 0 0)]] (site 24 56) 1), vi 0]) (h24 many (.st 1 [[.v (.slice none 0 0)]] (site 24 56) 1) [] [(site 24 56, 1)])) :=
  symCT_ev (n := 300) (sc := [(site 24 18, Dec.b false), (site 24 21, Dec.b false), (site 24 52, Dec.b false)]) (keep := [4, 5]) (L := [(loopSite 24, 0), (site 40 3, 0), (site 40 4, 0), (site 40 5, 0), (site 48 4, 0)]) (sc' := []) (by kernel_rfl) (AllP_cons h1 (AllP_cons h2 (AllP_cons h3 (AllP_cons (rfl : true = true) (AllP_cons (rfl : true = true) (AllP_cons (rfl : true = true) AllP_nil))))))
theorem ozEa (fu : Bool) (many : Int) (h1 : decide (many < 0) = true) :
    Ev C9 noO (.call 24 [.d (.sl 7 fu []), vi many] {}) (.val (.tup [(.d (.v (.slice none 0 0))), vi 1]) (h24 many (.d (.v (.slice none 0 0))) [] [])) :=
  sym_ev 80 _ [(site 24 18, Dec.b true)] _ [] _ (by kernel_rfl) (AllP_cons h1 AllP_nil)
theorem ozEb (fu : Bool) (many : Int) (h1 : decide (many < 0) = false) (h2 : decide (many > 1000) = true) :
    Ev C9 noO (.call 24 [.d (.sl 7 fu []), vi many] {}) (.val (.tup [(.d (.v (.slice none 0 0))), vi 1]) (h24 many (.d (.v (.slice none 0 0))) [] [])) :=
  sym_ev 80 _ [(site 24 18, Dec.b false), (site 24 21, Dec.b true)] _ [] _ (by kernel_rfl) (AllP_cons h1 (AllP_cons h2 AllP_nil))
theorem owr (fu : Bool) (r : List (List DV)) (es : List (Value × Bool × List DV)) (many : Int) (hr : rightSpec [.one (.sl 7 fu r)] = some [pbool false]) :
    Ev C9 noO (.call 24 [.d (.sl 7 fu r), vi many] {}) (.val (.tup [(.d (.v (.slice none 0 0))), vi 4]) (h24 many (.d (.v (.slice none 0 0))) [] [])) :=
  sym_ev 80 _ [(site 24 12, Dec.prim [pbool false])] _ [] _ (by kernel_rfl) (AllP_cons hr AllP_nil)
theorem owa (fu : Bool) (r : List (List DV)) (es : List (Value × Bool × List DV)) (many : Int) (hr : rightSpec [.one (.sl 7 fu r)] = some [pbool true]) (hm : metSpec [.one (.sl 7 fu r)] = some [.one (.mp es)]) (h1 : decide (many < 0) = true) :
    Ev C9 noO (.call 24 [.d (.sl 7 fu r), vi many] {}) (.val (.tup [(.d (.v (.slice none 0 0))), vi 1]) (h24 many (.d (.v (.slice none 0 0))) [] [])) :=
  sym_ev 80 _ [(site 24 12, Dec.prim [pbool true]), (site 24 15, Dec.prim [.one (.mp es)]), (site 24 18, Dec.b true)] _ [] _ (by kernel_rfl) (AllP_cons hr (AllP_cons hm (AllP_cons h1 AllP_nil)))
theorem owb (fu : Bool) (r : List (List DV)) (es : List (Value × Bool × List DV)) (many : Int) (hr : rightSpec [.one (.sl 7 fu r)] = some [pbool true]) (hm : metSpec [.one (.sl 7 fu r)] = some [.one (.mp es)]) (h1 : decide (many < 0) = false) (h2 : decide (many > 1000) = true) :
    Ev C9 noO (.call 24 [.d (.sl 7 fu r), vi many] {}) (.val (.tup [(.d (.v (.slice none 0 0))), vi 1]) (h24 many (.d (.v (.slice none 0 0))) [] [])) :=
  sym_ev 80 _ [(site 24 12, Dec.prim [pbool true]), (site 24 15, Dec.prim [.one (.mp es)]), (site 24 18, Dec.b false), (site 24 21, Dec.b true)] _ [] _ (by kernel_rfl) (AllP_cons hr (AllP_cons hm (AllP_cons h1 (AllP_cons h2 AllP_nil))))
theorem owc (fu : Bool) (r : List (List DV)) (es : List (Value × Bool × List DV)) (many : Int) (hr : rightSpec [.one (.sl 7 fu r)] = some [pbool true]) (hm : metSpec [.one (.sl 7 fu r)] = some [.one (.mp es)]) (h1 : decide (many < 0) = false) (h2 : decide (many > 1000) = false) (h3 : decide ((es.length : Int) > 7) = true) :
    Ev C9 noO (.call 24 [.d (.sl 7 fu r), vi many] {}) (.val (.tup [(.d (.v (.slice none 0 0))), vi 2]) (h24 many (.d (.v (.slice none 0 0))) [] [])) :=
  sym_ev 80 _ [(site 24 12, Dec.prim [pbool true]), (site 24 15, Dec.prim [.one (.mp es)]), (site 24 18, Dec.b false), (site 24 21, Dec.b false), (site 24 26, Dec.b true)] _ [] _ (by kernel_rfl) (AllP_cons hr (AllP_cons hm (AllP_cons h1 (AllP_cons h2 (AllP_cons h3 AllP_nil)))))

end Go.Ev

namespace Go.Ev
open Go Go.RowKit Go.Proofs

def ordL (l : List Evt) : List (List (Int × Int)) := everyL (metL 0 l []) (sortL [] (begI l)) 7 []
def ordersR (l : List Evt) (many : Int) : List PV :=
  if rightB l = false then [nilPV, pint 4] else if many < 0 ∨ many > 1000 then [nilPV, pint 1] else if (metL 0 l []).length > 7 then [nilPV, pint 2]
  else [madePV 1 (rowsO ((ordL l).take many.toNat)), pint 0]
def ordersSpec : Spec
  | [p, .one (.v (.int .i64 many))] => match evtsOf p with
    | some l => if l.length < 2 ^ 40 then some (ordersR l many) else none
    | none => none
  | _ => none
theorem sortL_len : ∀ (r p : List (Int × Int)), (sortL p r).length = p.length + r.length
  | [], p => by simp [sortL]
  | c :: r, p => by
    unfold sortL
    rw [sortL_len r, insL_len]
    simp; omega
theorem pcells_D (l : List (Int × Int)) : allSome cellD (pcells l) = some (rowsP l).flatten := by
  induction l with
  | nil => rfl
  | cons c l ih =>
    show allSome cellD ([vi c.1, vi c.2] ++ pcells l) = some ([di c.1, di c.2] ++ (rowsP l).flatten)
    exact allSome_append rfl ih
theorem pcells_len (l : List (Int × Int)) : (pcells l).length = l.length * 2 := fl_len (f := fun c : Int × Int => [vi c.1, vi c.2]) (w := 2) (fun _ => rfl) l
theorem frz24 (many : Int) (oa : AV) (l : List (Int × Int)) (n : Nat) (hn : l.length = n) : freeze1 (hL many oa (pcells l)) (lS n) = some (.one (.sl 2 false (rowsP l)), h24 many oa [(site 24 41, 1, [.cells (pcells l) true])] []) := by
  have hg : (hL many oa (pcells l)).get (site 24 41) 0 = some (.cells (pcells l) false) := by kernel_rfl
  have hs : (hL many oa (pcells l)).set (site 24 41) 0 (.cells (pcells l) true) = h24 many oa [(site 24 41, 1, [.cells (pcells l) true])] [] := by kernel_rfl
  have ht : takeCells (pcells l) 0 (n * 2) = some (pcells l) := by
    unfold takeCells
    have := pcells_len l
    rw [if_pos (by omega), List.drop_zero, List.take_of_length_le (by omega)]
  have hc : chunk 2 n (rowsP l).flatten = rowsP l := by
    have := chunk_rows (w := 2) (rowsP l) (fun r hr => by
      simp only [rowsP, List.mem_map] at hr
      obtain ⟨c, _, rfl⟩ := hr
      rfl)
    rw [show (rowsP l).length = n by simp [rowsP, hn]] at this
    exact this
  simp only [lS, freeze1, hg, rowsOf, ht, pcells_D, hc, hs]
theorem met_beg {l : List Evt} (h : rightB l = true) : (begI l).length ≤ (metL 0 l []).length := by
  have hm := (met_of h).1
  have := len_of_sub (begI l) ((metL 0 l []).map (·.1)) (beg_nodup h) fun c hc => by
    have h1 := (get_some hm c).2 ((mem_beg h c).1 hc)
    obtain ⟨v, hv⟩ := Option.isSome_iff_exists.1 h1
    have h2 := (getKV_mem c v (metL 0 l []) (keys_met l 0 [] (by simp))).1 hv
    exact List.mem_map.2 ⟨_, h2, rfl⟩
  simpa using this
theorem resA_made {O : List (List (Int × Int))} {oa : AV} {tk : List (Nat × Nat)} (h : OutRel O oa tk) (H1 : H) : resA H1 (.tup [oa, vi 0]) = some ([madePV 1 (rowsO O), pint 0], H1) := by
  rcases h with ⟨rfl, rfl, rfl⟩ | ⟨hne, g, rfl, rfl⟩
  · rfl
  · have : madePV 1 (rowsO O) = .one (.sl 1 false (rowsO O)) := by
      unfold madePV
      rw [if_neg (by simpa [rowsO] using hne)]
    rw [this]; rfl
theorem orders_sat : Sat C9 24 ordersSpec := by
  refine sat_of_ev (O := noO) hP9 (fun _ _ h => h.elim) hm0 fun ps rs hs => ?_
  unfold ordersSpec at hs
  split at hs
  · rename_i p many
    split at hs
    · rename_i l hl
      split at hs
      · rename_i hb
        simp only [Option.some.injEq] at hs
        subst hs
        have hz : ∀ {y : DV}, (∀ (h1 : decide (many < 0) = true), ∃ h1, Ev C9 noO (.call 24 [.d y, vi many] {}) (.val (.tup [.d (.v (.slice none 0 0)), vi 1]) h1)) →
            (∀ (h1 : decide (many < 0) = false) (h2 : decide (many > 1000) = true), ∃ h1, Ev C9 noO (.call 24 [.d y, vi many] {}) (.val (.tup [.d (.v (.slice none 0 0)), vi 1]) h1)) →
            (∀ (h1 : decide (many < 0) = false) (h2 : decide (many > 1000) = false) (h3 : ((0 : Int) == many) = true), ∃ h1, Ev C9 noO (.call 24 [.d y, vi many] {}) (.val (.tup [.d (.v (.slice none 0 0)), vi 0]) h1)) →
            (∀ (h1 : decide (many < 0) = false) (h2 : decide (many > 1000) = false) (h3 : ((0 : Int) == many) = false), ∃ h1, Ev C9 noO (.call 24 [.d y, vi many] {}) (.val (.tup [.st 1 [[.v (.slice none 0 0)]] (site 24 56) 1, vi 0]) h1)) →
            ∃ a h1 h2, Ev C9 noO (.call 24 [.d y, vi many] {}) (.val a h1) ∧ resA h1 a = some (ordersR [] many, h2) := by
          intro y k1 k2 k3 k4
          have hr : rightB [] = true := by decide
          unfold ordersR
          rw [hr]
          simp only [Bool.true_eq_false, if_false]
          by_cases h1 : many < 0
          · rw [if_pos (.inl h1)]
            obtain ⟨_, k⟩ := k1 (decide_eq_true h1)
            exact ⟨_, _, _, k, rfl⟩
          · by_cases h2 : many > 1000
            · rw [if_pos (.inr h2)]
              obtain ⟨_, k⟩ := k2 (decide_eq_false h1) (decide_eq_true h2)
              exact ⟨_, _, _, k, rfl⟩
            · rw [if_neg (by omega), if_neg (by simp [metL])]
              have ho : ordL [] = [[]] := by kernel_rfl
              rw [ho]
              by_cases h3 : many = 0
              · subst h3
                obtain ⟨_, k⟩ := k3 (decide_eq_false h1) (decide_eq_false h2) rfl
                exact ⟨_, _, _, k, rfl⟩
              · obtain ⟨_, k⟩ := k4 (decide_eq_false h1) (decide_eq_false h2) (by simp; omega)
                have e : ([[]] : List (List (Int × Int))).take many.toNat = [[]] := List.take_of_length_le (by simp; omega)
                rw [e]
                exact ⟨_, _, _, k, rfl⟩
        rcases evtsOf_cases hl with ⟨rfl, rfl⟩ | ⟨f, rfl⟩
        · exact hz (fun h1 => ⟨_, ozNa many h1⟩) (fun h1 h2 => ⟨_, ozNb many h1 h2⟩) (fun h1 h2 h3 => ⟨_, ozNy many h1 h2 h3⟩) (fun h1 h2 h3 => ⟨_, ozNn many h1 h2 h3⟩)
        · by_cases hn : l = []
          · subst hn
            exact hz (fun h1 => ⟨_, ozEa f many h1⟩) (fun h1 h2 => ⟨_, ozEb f many h1 h2⟩) (fun h1 h2 h3 => ⟨_, ozEy f many h1 h2 h3⟩) (fun h1 h2 h3 => ⟨_, ozEn f many h1 h2 h3⟩)
          · unfold ordersR
            cases hr : rightB l with
            | false =>
              simp only [if_true]
              exact ⟨_, _, _, owr f (evRows l) [] many (right_at hb hr), rfl⟩
            | true =>
              simp only [Bool.true_eq_false, if_false]
              have hra := right_at (f := f) hb hr
              have hma := met_at (f := f) hb
              by_cases h1 : many < 0
              · rw [if_pos (.inl h1)]
                exact ⟨_, _, _, owa f (evRows l) _ many hra hma (decide_eq_true h1), rfl⟩
              · by_cases h2 : many > 1000
                · rw [if_pos (.inr h2)]
                  exact ⟨_, _, _, owb f (evRows l) _ many hra hma (decide_eq_false h1) (decide_eq_true h2), rfl⟩
                · rw [if_neg (by omega)]
                  have hel : ((((metL 0 l []).map entA).length : Nat) : Int) = ((metL 0 l []).length : Nat) := by simp
                  by_cases h3 : (metL 0 l []).length > 7
                  · rw [if_pos h3]
                    exact ⟨_, _, _, owc f (evRows l) _ many hra hma (decide_eq_false h1) (decide_eq_false h2) (decide_eq_true (by rw [hel]; omega)), rfl⟩
                  · rw [if_neg h3]
                    have hbl : (begI l).length = (spansI l).length := by unfold begI; simp
                    have hb7 : (begI l).length ≤ 7 := by have := met_beg hr; omega
                    have hsn := spans_ne hr hn
                    have hbn : begI l ≠ [] := by unfold begI; simpa using hsn
                    have hsp := pspans_at (f := f) hb
                    rw [made_ne hsn] at hsp
                    have hl1 : (sortL [] (begI l)).length = (spansI l).length := by rw [sortL_len]; simp [hbl]
                    have hes : decide (((((metL 0 l []).map entA).length : Nat) : Int) > 7) = false := decide_eq_false (by rw [hel]; omega)
                    have hlen : (((rowsS (spansI l)).length : Nat) : Int) = ((spansI l).length : Nat) := by simp [rowsS]
                    have e1 := l24_all ((metL 0 l []).map entA) many (spansI l) hsn (by omega)
                    have e2 := srt_call many (.d (.v (.slice none 0 0))) (begI l) hbn hb7
                    rw [hbl] at e2
                    have e3 := frz24 many (.d (.v (.slice none 0 0))) (sortL [] (begI l)) (spansI l).length hl1
                    obtain ⟨k, rfl⟩ : ∃ k : Nat, many = k := ⟨many.toNat, by omega⟩
                    obtain ⟨oa, tk, r1, r2⟩ := ev48 (m := metL 0 l []) (l := sortL [] (begI l)) (by omega) (many := k) (by omega) 7 0 rfl (fun _ => ⟨[], (0, 0), 0⟩) [] [] (.d (.v (.slice none 0 0))) [] ⟨rfl, fun h => absurd h (by omega)⟩ List.nodup_nil (by simp) (.inl ⟨rfl, rfl, rfl⟩) (by simp)
                    have e4 : (told k [] (ordL l)).1 = (ordL l).take ((k : Nat) : Int).toNat := by simp [told]
                    have r1' : OutRel ((ordL l).take ((k : Nat) : Int).toNat) oa tk := by rw [← e4]; exact r1
                    have r2' : Ev C9 noO (.call 48 (args48 0) (Ev.hO 0 1 0 0 (fun _ => ⟨[], (0, 0), 0⟩) ((metL 0 l []).map entA) (sortL [] (begI l)) k (.d (.v (.slice none 0 0))) [] false)) (.val unitA (Ev.hO 0 1 0 0 (fun _ => ⟨[], (0, 0), 0⟩) ((metL 0 l []).map entA) (sortL [] (begI l)) k oa tk (told k [] (ordL l)).2)) := r2
                    have e5 := resA_made r1'
                    generalize (ordL l).take ((k : Nat) : Int).toNat = O at r1' e5
                    cases hbk : (told k [] (ordL l)).2 with
                    | true =>
                      rw [hbk] at r2'
                      rcases r1' with ⟨rfl, rfl, rfl⟩ | ⟨hne, g, rfl, rfl⟩
                      · exact ⟨_, _, _, odnr f _ _ _ _ _ _ _ _ hra hma (decide_eq_false h1) (decide_eq_false h2) hes hsp hlen e1 e2 e3 r2', e5 _⟩
                      · exact ⟨_, _, _, odsr f _ _ _ _ _ _ _ _ _ g hra hma (decide_eq_false h1) (decide_eq_false h2) hes hsp hlen e1 e2 e3 r2', e5 _⟩
                    | false =>
                      rw [hbk] at r2'
                      rcases r1' with ⟨rfl, rfl, rfl⟩ | ⟨hne, g, rfl, rfl⟩
                      · exact ⟨_, _, _, odne f _ _ _ _ _ _ _ _ hra hma (decide_eq_false h1) (decide_eq_false h2) hes hsp hlen e1 e2 e3 r2', e5 _⟩
                      · exact ⟨_, _, _, odse f _ _ _ _ _ _ _ _ _ g hra hma (decide_eq_false h1) (decide_eq_false h2) hes hsp hlen e1 e2 e3 r2', e5 _⟩
      · cases hs
    · cases hs
  · cases hs

def L9 : List (FuncId × Spec) := (24, ordersSpec) :: L8
noncomputable def C10 : Ctx := { P := Try.prog, prim := primL L9 }
theorem hP10 : PrimOK C10 := primOK_cons hP8 rfl (by decide) (orders_sat.ctx rfl rfl) rfl rfl rfl (by kernel_rfl)

end Go.Ev
