/- What the proof of this claim needs: part ME. No conditions. -/
import Derived.Test.YtgpdnahmgacffaaMD
set_option linter.unusedVariables false
set_option linter.unusedSimpArgs false

namespace Go.Ev
open Go Go.RowKit Go.Proofs

theorem rt_yy (full : Bool) (rows : List (List DV)) (n : Int) (i : Int) (nx : List Evt) (e : Evt) (h1 : decide (i < n) = true) (h2 : 0 ≤ i ∧ rows[Int.toNat i]? = some (Evt.row e)) (h3 : decide (e.th < 0) = true) (h4 : hFree [90118] { objs := [(90115, 1, [AO.cells (evCells nx) false]), (90118, 1, [AO.cells [vi e.1, vi e.2, vb e.3, vi e.an.1, vi e.an.2, vi e.an.3, vi e.an.4] false])] } = true) :
    Ev C0 noO (Task.code 11 false (loopOf Try.prog 11 1) { σ := slots 72 [(3, AV.ptr (site 11 3) 0 0), (19, AV.d (DV.sl 7 full rows)), (20, vi n), (21, vi i)], h := H.push { } (site 11 3) (AO.cells (evCells nx) false) }) (.code (X.ret) { σ := slots 72 [(2, vb false)], h := { objs := [(90115, 1, [AO.cells (evCells nx) false])] } }) :=
  symD_ev (n := 60) (sc := [(site 11 22, Dec.b true), (site 11 23, Dec.row (Evt.row e)), (site 11 27, Dec.b true)]) (keep := [2]) (L := [90118]) (sc' := []) (by kernel_rfl) (AllP_cons h1 (AllP_cons h2 (AllP_cons h3 (AllP_cons (rfl : true = true) (AllP_cons h4 (AllP_cons (rfl : true = true) AllP_nil))))))
theorem rt_yny (full : Bool) (rows : List (List DV)) (n : Int) (i : Int) (nx : List Evt) (e : Evt) (h1 : decide (i < n) = true) (h2 : 0 ≤ i ∧ rows[Int.toNat i]? = some (Evt.row e)) (h3 : decide (e.th < 0) = false) (h4 : decide (e.th ≥ 64) = true) (h5 : hFree [90118] { objs := [(90115, 1, [AO.cells (evCells nx) false]), (90118, 1, [AO.cells [vi e.1, vi e.2, vb e.3, vi e.an.1, vi e.an.2, vi e.an.3, vi e.an.4] false])] } = true) :
    Ev C0 noO (Task.code 11 false (loopOf Try.prog 11 1) { σ := slots 72 [(3, AV.ptr (site 11 3) 0 0), (19, AV.d (DV.sl 7 full rows)), (20, vi n), (21, vi i)], h := H.push { } (site 11 3) (AO.cells (evCells nx) false) }) (.code (X.ret) { σ := slots 72 [(2, vb false)], h := { objs := [(90115, 1, [AO.cells (evCells nx) false])] } }) :=
  symD_ev (n := 60) (sc := [(site 11 22, Dec.b true), (site 11 23, Dec.row (Evt.row e)), (site 11 27, Dec.b false), (site 11 31, Dec.b true)]) (keep := [2]) (L := [90118]) (sc' := []) (by kernel_rfl) (AllP_cons h1 (AllP_cons h2 (AllP_cons h3 (AllP_cons h4 (AllP_cons (rfl : true = true) (AllP_cons h5 (AllP_cons (rfl : true = true) AllP_nil)))))))
theorem rt_ynnyet1t1L (full : Bool) (rows : List (List DV)) (n : Int) (i : Int) (nx : List Evt) (e : Evt) (k : Nat) (nx' : List Evt) (nx'2 : List Evt) (u : Evt) (a : Int) (i60 : Int) (nx'3 : List Evt) (nx'4 : List Evt) (i71 : Int) (x : X) (s : St) (h1 : decide (i < n) = true) (h2 : 0 ≤ i ∧ rows[Int.toNat i]? = some (Evt.row e)) (h3 : decide (e.th < 0) = false) (h4 : decide (e.th ≥ 64) = false) (h5 : e.th = ↑k ∧ k < 64) (h6 : stoEq C0 49 (evCells nx) (0 + k * 7 + 3) (AV.agg [vi 0, vi 0, vi 0, vi 0]) (evCells nx')) (h7 : e.re = true) (h8 : stoEq C0 49 (evCells nx') (0 + k * 7 + 3) (AV.agg [vi e.an.1, vi e.an.2, vi e.an.3, vi e.an.4]) (evCells nx'2)) (h9 : asCells C0 51 (evCells nx'2) (0 + k * 7) = some (AV.agg [vi u.1, vi u.2, vb u.3, vi u.an.1, vi u.an.2, vi u.an.3, vi u.an.4])) (h10 : still C0.P (Op.equal 51 (Value.agg #[Value.int IntKind.i64 e.1, Value.int IntKind.i64 e.2, Value.bool e.3, Value.int IntKind.i64 e.an.1, Value.int IntKind.i64 e.an.2, Value.int IntKind.i64 e.an.3, Value.int IntKind.i64 e.an.4]) (Value.agg #[Value.int IntKind.i64 u.1, Value.int IntKind.i64 u.2, Value.bool u.3, Value.int IntKind.i64 u.an.1, Value.int IntKind.i64 u.an.2, Value.int IntKind.i64 u.an.3, Value.int IntKind.i64 u.an.4])) = some true) (h11 : asCells C0 4 (evCells nx'2) (0 + k * 7 + 2) = some (vb true)) (h12 : asCells C0 3 (evCells nx'2) (0 + k * 7 + 1) = some (vi a)) (h13 : wr64 (a + 1) = i60) (h14 : stoEq C0 3 (evCells nx'2) (0 + k * 7 + 1) (vi i60) (evCells nx'3)) (h15 : asCells C0 4 (evCells nx'3) (0 + k * 7 + 2) = some (vb true)) (h16 : stoEq C0 4 (evCells nx'3) (0 + k * 7 + 2) (vb false) (evCells nx'4)) (h17 : wr64 (i + 1) = i71) (h18 : hFree [90118] { objs := [(90115, 1, [AO.cells (evCells nx'4) false]), (90118, 1, [AO.cells [vi e.1, vi e.2, vb e.3, vi e.an.1, vi e.an.2, vi e.an.3, vi e.an.4] false])] } = true) (h19 : Ev C0 noO (Task.code 11 false (loopOf Try.prog 11 1) { σ := slots 72 [(3, AV.ptr 90115 0 0), (19, AV.d (DV.sl 7 full rows)), (20, vi n), (21, vi i71)], h := { objs := [(90115, 1, [AO.cells (evCells nx'4) false])] } }) (Res.code x s)) :
    Ev C0 noO (Task.code 11 false (loopOf Try.prog 11 1) { σ := slots 72 [(3, AV.ptr (site 11 3) 0 0), (19, AV.d (DV.sl 7 full rows)), (20, vi n), (21, vi i)], h := H.push { } (site 11 3) (AO.cells (evCells nx) false) }) (.code (x) s) :=
  sym_ev 60 _ [(site 11 22, Dec.b true), (site 11 23, Dec.row (Evt.row e)), (site 11 27, Dec.b false), (site 11 31, Dec.b false), (site 11 35, Dec.idx k), (site 11 8000, Dec.sto (evCells nx')), (site 11 41, Dec.b true), (site 11 8000, Dec.sto (evCells nx'2)), (site 11 50, Dec.ld (AV.agg (Evt.av u))), (site 11 51, Dec.eqv true), (site 11 55, Dec.ld (vb true)), (site 11 59, Dec.ld (vi a)), (site 11 60, Dec.int i60), (site 11 8000, Dec.sto (evCells nx'3)), (site 11 67, Dec.ld (vb true)), (site 11 8000, Dec.sto (evCells nx'4)), (site 11 71, Dec.int i71), (site 11 8002, Dec.drop [90118] [3, 19, 20, 21]), (site 11 8001, Dec.loop [3, 19, 20, 21] x s)] _ [] _ (by kernel_rfl) (AllP_cons h1 (AllP_cons h2 (AllP_cons h3 (AllP_cons h4 (AllP_cons h5 (AllP_cons h6 (AllP_cons h7 (AllP_cons h8 (AllP_cons h9 (AllP_cons h10 (AllP_cons h11 (AllP_cons h12 (AllP_cons h13 (AllP_cons h14 (AllP_cons h15 (AllP_cons h16 (AllP_cons h17 (AllP_cons (rfl : true = true) (AllP_cons h18 (AllP_cons (rfl : true = true) (AllP_cons h19 AllP_nil)))))))))))))))))))))
theorem rt_ynnyet1t2L (full : Bool) (rows : List (List DV)) (n : Int) (i : Int) (nx : List Evt) (e : Evt) (k : Nat) (nx' : List Evt) (nx'2 : List Evt) (u : Evt) (a : Int) (i60 : Int) (nx'3 : List Evt) (nx'4 : List Evt) (i71 : Int) (x : X) (s : St) (h1 : decide (i < n) = true) (h2 : 0 ≤ i ∧ rows[Int.toNat i]? = some (Evt.row e)) (h3 : decide (e.th < 0) = false) (h4 : decide (e.th ≥ 64) = false) (h5 : e.th = ↑k ∧ k < 64) (h6 : stoEq C0 49 (evCells nx) (0 + k * 7 + 3) (AV.agg [vi 0, vi 0, vi 0, vi 0]) (evCells nx')) (h7 : e.re = true) (h8 : stoEq C0 49 (evCells nx') (0 + k * 7 + 3) (AV.agg [vi e.an.1, vi e.an.2, vi e.an.3, vi e.an.4]) (evCells nx'2)) (h9 : asCells C0 51 (evCells nx'2) (0 + k * 7) = some (AV.agg [vi u.1, vi u.2, vb u.3, vi u.an.1, vi u.an.2, vi u.an.3, vi u.an.4])) (h10 : still C0.P (Op.equal 51 (Value.agg #[Value.int IntKind.i64 e.1, Value.int IntKind.i64 e.2, Value.bool e.3, Value.int IntKind.i64 e.an.1, Value.int IntKind.i64 e.an.2, Value.int IntKind.i64 e.an.3, Value.int IntKind.i64 e.an.4]) (Value.agg #[Value.int IntKind.i64 u.1, Value.int IntKind.i64 u.2, Value.bool u.3, Value.int IntKind.i64 u.an.1, Value.int IntKind.i64 u.an.2, Value.int IntKind.i64 u.an.3, Value.int IntKind.i64 u.an.4])) = some true) (h11 : asCells C0 4 (evCells nx'2) (0 + k * 7 + 2) = some (vb true)) (h12 : asCells C0 3 (evCells nx'2) (0 + k * 7 + 1) = some (vi a)) (h13 : wr64 (a + 1) = i60) (h14 : stoEq C0 3 (evCells nx'2) (0 + k * 7 + 1) (vi i60) (evCells nx'3)) (h15 : asCells C0 4 (evCells nx'3) (0 + k * 7 + 2) = some (vb false)) (h16 : stoEq C0 4 (evCells nx'3) (0 + k * 7 + 2) (vb true) (evCells nx'4)) (h17 : wr64 (i + 1) = i71) (h18 : hFree [90118] { objs := [(90115, 1, [AO.cells (evCells nx'4) false]), (90118, 1, [AO.cells [vi e.1, vi e.2, vb e.3, vi e.an.1, vi e.an.2, vi e.an.3, vi e.an.4] false])] } = true) (h19 : Ev C0 noO (Task.code 11 false (loopOf Try.prog 11 1) { σ := slots 72 [(3, AV.ptr 90115 0 0), (19, AV.d (DV.sl 7 full rows)), (20, vi n), (21, vi i71)], h := { objs := [(90115, 1, [AO.cells (evCells nx'4) false])] } }) (Res.code x s)) :
    Ev C0 noO (Task.code 11 false (loopOf Try.prog 11 1) { σ := slots 72 [(3, AV.ptr (site 11 3) 0 0), (19, AV.d (DV.sl 7 full rows)), (20, vi n), (21, vi i)], h := H.push { } (site 11 3) (AO.cells (evCells nx) false) }) (.code (x) s) :=
  sym_ev 60 _ [(site 11 22, Dec.b true), (site 11 23, Dec.row (Evt.row e)), (site 11 27, Dec.b false), (site 11 31, Dec.b false), (site 11 35, Dec.idx k), (site 11 8000, Dec.sto (evCells nx')), (site 11 41, Dec.b true), (site 11 8000, Dec.sto (evCells nx'2)), (site 11 50, Dec.ld (AV.agg (Evt.av u))), (site 11 51, Dec.eqv true), (site 11 55, Dec.ld (vb true)), (site 11 59, Dec.ld (vi a)), (site 11 60, Dec.int i60), (site 11 8000, Dec.sto (evCells nx'3)), (site 11 67, Dec.ld (vb false)), (site 11 8000, Dec.sto (evCells nx'4)), (site 11 71, Dec.int i71), (site 11 8002, Dec.drop [90118] [3, 19, 20, 21]), (site 11 8001, Dec.loop [3, 19, 20, 21] x s)] _ [] _ (by kernel_rfl) (AllP_cons h1 (AllP_cons h2 (AllP_cons h3 (AllP_cons h4 (AllP_cons h5 (AllP_cons h6 (AllP_cons h7 (AllP_cons h8 (AllP_cons h9 (AllP_cons h10 (AllP_cons h11 (AllP_cons h12 (AllP_cons h13 (AllP_cons h14 (AllP_cons h15 (AllP_cons h16 (AllP_cons h17 (AllP_cons (rfl : true = true) (AllP_cons h18 (AllP_cons (rfl : true = true) (AllP_cons h19 AllP_nil)))))))))))))))))))))
theorem rt_ynnyet2t1L (full : Bool) (rows : List (List DV)) (n : Int) (i : Int) (nx : List Evt) (e : Evt) (k : Nat) (nx' : List Evt) (nx'2 : List Evt) (u : Evt) (nx'3 : List Evt) (i71 : Int) (x : X) (s : St) (h1 : decide (i < n) = true) (h2 : 0 ≤ i ∧ rows[Int.toNat i]? = some (Evt.row e)) (h3 : decide (e.th < 0) = false) (h4 : decide (e.th ≥ 64) = false) (h5 : e.th = ↑k ∧ k < 64) (h6 : stoEq C0 49 (evCells nx) (0 + k * 7 + 3) (AV.agg [vi 0, vi 0, vi 0, vi 0]) (evCells nx')) (h7 : e.re = true) (h8 : stoEq C0 49 (evCells nx') (0 + k * 7 + 3) (AV.agg [vi e.an.1, vi e.an.2, vi e.an.3, vi e.an.4]) (evCells nx'2)) (h9 : asCells C0 51 (evCells nx'2) (0 + k * 7) = some (AV.agg [vi u.1, vi u.2, vb u.3, vi u.an.1, vi u.an.2, vi u.an.3, vi u.an.4])) (h10 : still C0.P (Op.equal 51 (Value.agg #[Value.int IntKind.i64 e.1, Value.int IntKind.i64 e.2, Value.bool e.3, Value.int IntKind.i64 e.an.1, Value.int IntKind.i64 e.an.2, Value.int IntKind.i64 e.an.3, Value.int IntKind.i64 e.an.4]) (Value.agg #[Value.int IntKind.i64 u.1, Value.int IntKind.i64 u.2, Value.bool u.3, Value.int IntKind.i64 u.an.1, Value.int IntKind.i64 u.an.2, Value.int IntKind.i64 u.an.3, Value.int IntKind.i64 u.an.4])) = some true) (h11 : asCells C0 4 (evCells nx'2) (0 + k * 7 + 2) = some (vb false)) (h12 : asCells C0 4 (evCells nx'2) (0 + k * 7 + 2) = some (vb true)) (h13 : stoEq C0 4 (evCells nx'2) (0 + k * 7 + 2) (vb false) (evCells nx'3)) (h14 : wr64 (i + 1) = i71) (h15 : hFree [90118] { objs := [(90115, 1, [AO.cells (evCells nx'3) false]), (90118, 1, [AO.cells [vi e.1, vi e.2, vb e.3, vi e.an.1, vi e.an.2, vi e.an.3, vi e.an.4] false])] } = true) (h16 : Ev C0 noO (Task.code 11 false (loopOf Try.prog 11 1) { σ := slots 72 [(3, AV.ptr 90115 0 0), (19, AV.d (DV.sl 7 full rows)), (20, vi n), (21, vi i71)], h := { objs := [(90115, 1, [AO.cells (evCells nx'3) false])] } }) (Res.code x s)) :
    Ev C0 noO (Task.code 11 false (loopOf Try.prog 11 1) { σ := slots 72 [(3, AV.ptr (site 11 3) 0 0), (19, AV.d (DV.sl 7 full rows)), (20, vi n), (21, vi i)], h := H.push { } (site 11 3) (AO.cells (evCells nx) false) }) (.code (x) s) :=
  sym_ev 60 _ [(site 11 22, Dec.b true), (site 11 23, Dec.row (Evt.row e)), (site 11 27, Dec.b false), (site 11 31, Dec.b false), (site 11 35, Dec.idx k), (site 11 8000, Dec.sto (evCells nx')), (site 11 41, Dec.b true), (site 11 8000, Dec.sto (evCells nx'2)), (site 11 50, Dec.ld (AV.agg (Evt.av u))), (site 11 51, Dec.eqv true), (site 11 55, Dec.ld (vb false)), (site 11 67, Dec.ld (vb true)), (site 11 8000, Dec.sto (evCells nx'3)), (site 11 71, Dec.int i71), (site 11 8002, Dec.drop [90118] [3, 19, 20, 21]), (site 11 8001, Dec.loop [3, 19, 20, 21] x s)] _ [] _ (by kernel_rfl) (AllP_cons h1 (AllP_cons h2 (AllP_cons h3 (AllP_cons h4 (AllP_cons h5 (AllP_cons h6 (AllP_cons h7 (AllP_cons h8 (AllP_cons h9 (AllP_cons h10 (AllP_cons h11 (AllP_cons h12 (AllP_cons h13 (AllP_cons h14 (AllP_cons (rfl : true = true) (AllP_cons h15 (AllP_cons (rfl : true = true) (AllP_cons h16 AllP_nil))))))))))))))))))
theorem rt_ynnyet2t2L (full : Bool) (rows : List (List DV)) (n : Int) (i : Int) (nx : List Evt) (e : Evt) (k : Nat) (nx' : List Evt) (nx'2 : List Evt) (u : Evt) (nx'3 : List Evt) (i71 : Int) (x : X) (s : St) (h1 : decide (i < n) = true) (h2 : 0 ≤ i ∧ rows[Int.toNat i]? = some (Evt.row e)) (h3 : decide (e.th < 0) = false) (h4 : decide (e.th ≥ 64) = false) (h5 : e.th = ↑k ∧ k < 64) (h6 : stoEq C0 49 (evCells nx) (0 + k * 7 + 3) (AV.agg [vi 0, vi 0, vi 0, vi 0]) (evCells nx')) (h7 : e.re = true) (h8 : stoEq C0 49 (evCells nx') (0 + k * 7 + 3) (AV.agg [vi e.an.1, vi e.an.2, vi e.an.3, vi e.an.4]) (evCells nx'2)) (h9 : asCells C0 51 (evCells nx'2) (0 + k * 7) = some (AV.agg [vi u.1, vi u.2, vb u.3, vi u.an.1, vi u.an.2, vi u.an.3, vi u.an.4])) (h10 : still C0.P (Op.equal 51 (Value.agg #[Value.int IntKind.i64 e.1, Value.int IntKind.i64 e.2, Value.bool e.3, Value.int IntKind.i64 e.an.1, Value.int IntKind.i64 e.an.2, Value.int IntKind.i64 e.an.3, Value.int IntKind.i64 e.an.4]) (Value.agg #[Value.int IntKind.i64 u.1, Value.int IntKind.i64 u.2, Value.bool u.3, Value.int IntKind.i64 u.an.1, Value.int IntKind.i64 u.an.2, Value.int IntKind.i64 u.an.3, Value.int IntKind.i64 u.an.4])) = some true) (h11 : asCells C0 4 (evCells nx'2) (0 + k * 7 + 2) = some (vb false)) (h12 : asCells C0 4 (evCells nx'2) (0 + k * 7 + 2) = some (vb false)) (h13 : stoEq C0 4 (evCells nx'2) (0 + k * 7 + 2) (vb true) (evCells nx'3)) (h14 : wr64 (i + 1) = i71) (h15 : hFree [90118] { objs := [(90115, 1, [AO.cells (evCells nx'3) false]), (90118, 1, [AO.cells [vi e.1, vi e.2, vb e.3, vi e.an.1, vi e.an.2, vi e.an.3, vi e.an.4] false])] } = true) (h16 : Ev C0 noO (Task.code 11 false (loopOf Try.prog 11 1) { σ := slots 72 [(3, AV.ptr 90115 0 0), (19, AV.d (DV.sl 7 full rows)), (20, vi n), (21, vi i71)], h := { objs := [(90115, 1, [AO.cells (evCells nx'3) false])] } }) (Res.code x s)) :
    Ev C0 noO (Task.code 11 false (loopOf Try.prog 11 1) { σ := slots 72 [(3, AV.ptr (site 11 3) 0 0), (19, AV.d (DV.sl 7 full rows)), (20, vi n), (21, vi i)], h := H.push { } (site 11 3) (AO.cells (evCells nx) false) }) (.code (x) s) :=
  sym_ev 60 _ [(site 11 22, Dec.b true), (site 11 23, Dec.row (Evt.row e)), (site 11 27, Dec.b false), (site 11 31, Dec.b false), (site 11 35, Dec.idx k), (site 11 8000, Dec.sto (evCells nx')), (site 11 41, Dec.b true), (site 11 8000, Dec.sto (evCells nx'2)), (site 11 50, Dec.ld (AV.agg (Evt.av u))), (site 11 51, Dec.eqv true), (site 11 55, Dec.ld (vb false)), (site 11 67, Dec.ld (vb false)), (site 11 8000, Dec.sto (evCells nx'3)), (site 11 71, Dec.int i71), (site 11 8002, Dec.drop [90118] [3, 19, 20, 21]), (site 11 8001, Dec.loop [3, 19, 20, 21] x s)] _ [] _ (by kernel_rfl) (AllP_cons h1 (AllP_cons h2 (AllP_cons h3 (AllP_cons h4 (AllP_cons h5 (AllP_cons h6 (AllP_cons h7 (AllP_cons h8 (AllP_cons h9 (AllP_cons h10 (AllP_cons h11 (AllP_cons h12 (AllP_cons h13 (AllP_cons h14 (AllP_cons (rfl : true = true) (AllP_cons h15 (AllP_cons (rfl : true = true) (AllP_cons h16 AllP_nil))))))))))))))))))
theorem rt_ynnyd (full : Bool) (rows : List (List DV)) (n : Int) (i : Int) (nx : List Evt) (e : Evt) (k : Nat) (nx' : List Evt) (nx'2 : List Evt) (u : Evt) (h1 : decide (i < n) = true) (h2 : 0 ≤ i ∧ rows[Int.toNat i]? = some (Evt.row e)) (h3 : decide (e.th < 0) = false) (h4 : decide (e.th ≥ 64) = false) (h5 : e.th = ↑k ∧ k < 64) (h6 : stoEq C0 49 (evCells nx) (0 + k * 7 + 3) (AV.agg [vi 0, vi 0, vi 0, vi 0]) (evCells nx')) (h7 : e.re = true) (h8 : stoEq C0 49 (evCells nx') (0 + k * 7 + 3) (AV.agg [vi e.an.1, vi e.an.2, vi e.an.3, vi e.an.4]) (evCells nx'2)) (h9 : asCells C0 51 (evCells nx'2) (0 + k * 7) = some (AV.agg [vi u.1, vi u.2, vb u.3, vi u.an.1, vi u.an.2, vi u.an.3, vi u.an.4])) (h10 : still C0.P (Op.equal 51 (Value.agg #[Value.int IntKind.i64 e.1, Value.int IntKind.i64 e.2, Value.bool e.3, Value.int IntKind.i64 e.an.1, Value.int IntKind.i64 e.an.2, Value.int IntKind.i64 e.an.3, Value.int IntKind.i64 e.an.4]) (Value.agg #[Value.int IntKind.i64 u.1, Value.int IntKind.i64 u.2, Value.bool u.3, Value.int IntKind.i64 u.an.1, Value.int IntKind.i64 u.an.2, Value.int IntKind.i64 u.an.3, Value.int IntKind.i64 u.an.4])) = some false) (h11 : hFree [90118] { objs := [(90115, 1, [AO.cells (evCells nx'2) false]), (90118, 1, [AO.cells [vi e.1, vi e.2, vb e.3, vi e.an.1, vi e.an.2, vi e.an.3, vi e.an.4] false])] } = true) :
    Ev C0 noO (Task.code 11 false (loopOf Try.prog 11 1) { σ := slots 72 [(3, AV.ptr (site 11 3) 0 0), (19, AV.d (DV.sl 7 full rows)), (20, vi n), (21, vi i)], h := H.push { } (site 11 3) (AO.cells (evCells nx) false) }) (.code (X.ret) { σ := slots 72 [(2, vb false)], h := { objs := [(90115, 1, [AO.cells (evCells nx'2) false])] } }) :=
  symD_ev (n := 60) (sc := [(site 11 22, Dec.b true), (site 11 23, Dec.row (Evt.row e)), (site 11 27, Dec.b false), (site 11 31, Dec.b false), (site 11 35, Dec.idx k), (site 11 8000, Dec.sto (evCells nx')), (site 11 41, Dec.b true), (site 11 8000, Dec.sto (evCells nx'2)), (site 11 50, Dec.ld (AV.agg (Evt.av u))), (site 11 51, Dec.eqv false)]) (keep := [2]) (L := [90118]) (sc' := []) (by kernel_rfl) (AllP_cons h1 (AllP_cons h2 (AllP_cons h3 (AllP_cons h4 (AllP_cons h5 (AllP_cons h6 (AllP_cons h7 (AllP_cons h8 (AllP_cons h9 (AllP_cons h10 (AllP_cons (rfl : true = true) (AllP_cons h11 (AllP_cons (rfl : true = true) AllP_nil)))))))))))))
theorem rt_ynnnet1t1L (full : Bool) (rows : List (List DV)) (n : Int) (i : Int) (nx : List Evt) (e : Evt) (k : Nat) (nx' : List Evt) (u : Evt) (a : Int) (i60 : Int) (nx'2 : List Evt) (nx'3 : List Evt) (i71 : Int) (x : X) (s : St) (h1 : decide (i < n) = true) (h2 : 0 ≤ i ∧ rows[Int.toNat i]? = some (Evt.row e)) (h3 : decide (e.th < 0) = false) (h4 : decide (e.th ≥ 64) = false) (h5 : e.th = ↑k ∧ k < 64) (h6 : stoEq C0 49 (evCells nx) (0 + k * 7 + 3) (AV.agg [vi 0, vi 0, vi 0, vi 0]) (evCells nx')) (h7 : e.re = false) (h8 : asCells C0 51 (evCells nx') (0 + k * 7) = some (AV.agg [vi u.1, vi u.2, vb u.3, vi u.an.1, vi u.an.2, vi u.an.3, vi u.an.4])) (h9 : still C0.P (Op.equal 51 (Value.agg #[Value.int IntKind.i64 e.1, Value.int IntKind.i64 e.2, Value.bool e.3, Value.int IntKind.i64 e.an.1, Value.int IntKind.i64 e.an.2, Value.int IntKind.i64 e.an.3, Value.int IntKind.i64 e.an.4]) (Value.agg #[Value.int IntKind.i64 u.1, Value.int IntKind.i64 u.2, Value.bool u.3, Value.int IntKind.i64 u.an.1, Value.int IntKind.i64 u.an.2, Value.int IntKind.i64 u.an.3, Value.int IntKind.i64 u.an.4])) = some true) (h10 : asCells C0 4 (evCells nx') (0 + k * 7 + 2) = some (vb true)) (h11 : asCells C0 3 (evCells nx') (0 + k * 7 + 1) = some (vi a)) (h12 : wr64 (a + 1) = i60) (h13 : stoEq C0 3 (evCells nx') (0 + k * 7 + 1) (vi i60) (evCells nx'2)) (h14 : asCells C0 4 (evCells nx'2) (0 + k * 7 + 2) = some (vb true)) (h15 : stoEq C0 4 (evCells nx'2) (0 + k * 7 + 2) (vb false) (evCells nx'3)) (h16 : wr64 (i + 1) = i71) (h17 : hFree [90118] { objs := [(90115, 1, [AO.cells (evCells nx'3) false]), (90118, 1, [AO.cells [vi e.1, vi e.2, vb e.3, vi e.an.1, vi e.an.2, vi e.an.3, vi e.an.4] false])] } = true) (h18 : Ev C0 noO (Task.code 11 false (loopOf Try.prog 11 1) { σ := slots 72 [(3, AV.ptr 90115 0 0), (19, AV.d (DV.sl 7 full rows)), (20, vi n), (21, vi i71)], h := { objs := [(90115, 1, [AO.cells (evCells nx'3) false])] } }) (Res.code x s)) :
    Ev C0 noO (Task.code 11 false (loopOf Try.prog 11 1) { σ := slots 72 [(3, AV.ptr (site 11 3) 0 0), (19, AV.d (DV.sl 7 full rows)), (20, vi n), (21, vi i)], h := H.push { } (site 11 3) (AO.cells (evCells nx) false) }) (.code (x) s) :=
  sym_ev 60 _ [(site 11 22, Dec.b true), (site 11 23, Dec.row (Evt.row e)), (site 11 27, Dec.b false), (site 11 31, Dec.b false), (site 11 35, Dec.idx k), (site 11 8000, Dec.sto (evCells nx')), (site 11 41, Dec.b false), (site 11 50, Dec.ld (AV.agg (Evt.av u))), (site 11 51, Dec.eqv true), (site 11 55, Dec.ld (vb true)), (site 11 59, Dec.ld (vi a)), (site 11 60, Dec.int i60), (site 11 8000, Dec.sto (evCells nx'2)), (site 11 67, Dec.ld (vb true)), (site 11 8000, Dec.sto (evCells nx'3)), (site 11 71, Dec.int i71), (site 11 8002, Dec.drop [90118] [3, 19, 20, 21]), (site 11 8001, Dec.loop [3, 19, 20, 21] x s)] _ [] _ (by kernel_rfl) (AllP_cons h1 (AllP_cons h2 (AllP_cons h3 (AllP_cons h4 (AllP_cons h5 (AllP_cons h6 (AllP_cons h7 (AllP_cons h8 (AllP_cons h9 (AllP_cons h10 (AllP_cons h11 (AllP_cons h12 (AllP_cons h13 (AllP_cons h14 (AllP_cons h15 (AllP_cons h16 (AllP_cons (rfl : true = true) (AllP_cons h17 (AllP_cons (rfl : true = true) (AllP_cons h18 AllP_nil))))))))))))))))))))
theorem rt_ynnnet1t2L (full : Bool) (rows : List (List DV)) (n : Int) (i : Int) (nx : List Evt) (e : Evt) (k : Nat) (nx' : List Evt) (u : Evt) (a : Int) (i60 : Int) (nx'2 : List Evt) (nx'3 : List Evt) (i71 : Int) (x : X) (s : St) (h1 : decide (i < n) = true) (h2 : 0 ≤ i ∧ rows[Int.toNat i]? = some (Evt.row e)) (h3 : decide (e.th < 0) = false) (h4 : decide (e.th ≥ 64) = false) (h5 : e.th = ↑k ∧ k < 64) (h6 : stoEq C0 49 (evCells nx) (0 + k * 7 + 3) (AV.agg [vi 0, vi 0, vi 0, vi 0]) (evCells nx')) (h7 : e.re = false) (h8 : asCells C0 51 (evCells nx') (0 + k * 7) = some (AV.agg [vi u.1, vi u.2, vb u.3, vi u.an.1, vi u.an.2, vi u.an.3, vi u.an.4])) (h9 : still C0.P (Op.equal 51 (Value.agg #[Value.int IntKind.i64 e.1, Value.int IntKind.i64 e.2, Value.bool e.3, Value.int IntKind.i64 e.an.1, Value.int IntKind.i64 e.an.2, Value.int IntKind.i64 e.an.3, Value.int IntKind.i64 e.an.4]) (Value.agg #[Value.int IntKind.i64 u.1, Value.int IntKind.i64 u.2, Value.bool u.3, Value.int IntKind.i64 u.an.1, Value.int IntKind.i64 u.an.2, Value.int IntKind.i64 u.an.3, Value.int IntKind.i64 u.an.4])) = some true) (h10 : asCells C0 4 (evCells nx') (0 + k * 7 + 2) = some (vb true)) (h11 : asCells C0 3 (evCells nx') (0 + k * 7 + 1) = some (vi a)) (h12 : wr64 (a + 1) = i60) (h13 : stoEq C0 3 (evCells nx') (0 + k * 7 + 1) (vi i60) (evCells nx'2)) (h14 : asCells C0 4 (evCells nx'2) (0 + k * 7 + 2) = some (vb false)) (h15 : stoEq C0 4 (evCells nx'2) (0 + k * 7 + 2) (vb true) (evCells nx'3)) (h16 : wr64 (i + 1) = i71) (h17 : hFree [90118] { objs := [(90115, 1, [AO.cells (evCells nx'3) false]), (90118, 1, [AO.cells [vi e.1, vi e.2, vb e.3, vi e.an.1, vi e.an.2, vi e.an.3, vi e.an.4] false])] } = true) (h18 : Ev C0 noO (Task.code 11 false (loopOf Try.prog 11 1) { σ := slots 72 [(3, AV.ptr 90115 0 0), (19, AV.d (DV.sl 7 full rows)), (20, vi n), (21, vi i71)], h := { objs := [(90115, 1, [AO.cells (evCells nx'3) false])] } }) (Res.code x s)) :
    Ev C0 noO (Task.code 11 false (loopOf Try.prog 11 1) { σ := slots 72 [(3, AV.ptr (site 11 3) 0 0), (19, AV.d (DV.sl 7 full rows)), (20, vi n), (21, vi i)], h := H.push { } (site 11 3) (AO.cells (evCells nx) false) }) (.code (x) s) :=
  sym_ev 60 _ [(site 11 22, Dec.b true), (site 11 23, Dec.row (Evt.row e)), (site 11 27, Dec.b false), (site 11 31, Dec.b false), (site 11 35, Dec.idx k), (site 11 8000, Dec.sto (evCells nx')), (site 11 41, Dec.b false), (site 11 50, Dec.ld (AV.agg (Evt.av u))), (site 11 51, Dec.eqv true), (site 11 55, Dec.ld (vb true)), (site 11 59, Dec.ld (vi a)), (site 11 60, Dec.int i60), (site 11 8000, Dec.sto (evCells nx'2)), (site 11 67, Dec.ld (vb false)), (site 11 8000, Dec.sto (evCells nx'3)), (site 11 71, Dec.int i71), (site 11 8002, Dec.drop [90118] [3, 19, 20, 21]), (site 11 8001, Dec.loop [3, 19, 20, 21] x s)] _ [] _ (by kernel_rfl) (AllP_cons h1 (AllP_cons h2 (AllP_cons h3 (AllP_cons h4 (AllP_cons h5 (AllP_cons h6 (AllP_cons h7 (AllP_cons h8 (AllP_cons h9 (AllP_cons h10 (AllP_cons h11 (AllP_cons h12 (AllP_cons h13 (AllP_cons h14 (AllP_cons h15 (AllP_cons h16 (AllP_cons (rfl : true = true) (AllP_cons h17 (AllP_cons (rfl : true = true) (AllP_cons h18 AllP_nil))))))))))))))))))))
theorem rt_ynnnet2t1L (full : Bool) (rows : List (List DV)) (n : Int) (i : Int) (nx : List Evt) (e : Evt) (k : Nat) (nx' : List Evt) (u : Evt) (nx'2 : List Evt) (i71 : Int) (x : X) (s : St) (h1 : decide (i < n) = true) (h2 : 0 ≤ i ∧ rows[Int.toNat i]? = some (Evt.row e)) (h3 : decide (e.th < 0) = false) (h4 : decide (e.th ≥ 64) = false) (h5 : e.th = ↑k ∧ k < 64) (h6 : stoEq C0 49 (evCells nx) (0 + k * 7 + 3) (AV.agg [vi 0, vi 0, vi 0, vi 0]) (evCells nx')) (h7 : e.re = false) (h8 : asCells C0 51 (evCells nx') (0 + k * 7) = some (AV.agg [vi u.1, vi u.2, vb u.3, vi u.an.1, vi u.an.2, vi u.an.3, vi u.an.4])) (h9 : still C0.P (Op.equal 51 (Value.agg #[Value.int IntKind.i64 e.1, Value.int IntKind.i64 e.2, Value.bool e.3, Value.int IntKind.i64 e.an.1, Value.int IntKind.i64 e.an.2, Value.int IntKind.i64 e.an.3, Value.int IntKind.i64 e.an.4]) (Value.agg #[Value.int IntKind.i64 u.1, Value.int IntKind.i64 u.2, Value.bool u.3, Value.int IntKind.i64 u.an.1, Value.int IntKind.i64 u.an.2, Value.int IntKind.i64 u.an.3, Value.int IntKind.i64 u.an.4])) = some true) (h10 : asCells C0 4 (evCells nx') (0 + k * 7 + 2) = some (vb false)) (h11 : asCells C0 4 (evCells nx') (0 + k * 7 + 2) = some (vb true)) (h12 : stoEq C0 4 (evCells nx') (0 + k * 7 + 2) (vb false) (evCells nx'2)) (h13 : wr64 (i + 1) = i71) (h14 : hFree [90118] { objs := [(90115, 1, [AO.cells (evCells nx'2) false]), (90118, 1, [AO.cells [vi e.1, vi e.2, vb e.3, vi e.an.1, vi e.an.2, vi e.an.3, vi e.an.4] false])] } = true) (h15 : Ev C0 noO (Task.code 11 false (loopOf Try.prog 11 1) { σ := slots 72 [(3, AV.ptr 90115 0 0), (19, AV.d (DV.sl 7 full rows)), (20, vi n), (21, vi i71)], h := { objs := [(90115, 1, [AO.cells (evCells nx'2) false])] } }) (Res.code x s)) :
    Ev C0 noO (Task.code 11 false (loopOf Try.prog 11 1) { σ := slots 72 [(3, AV.ptr (site 11 3) 0 0), (19, AV.d (DV.sl 7 full rows)), (20, vi n), (21, vi i)], h := H.push { } (site 11 3) (AO.cells (evCells nx) false) }) (.code (x) s) :=
  sym_ev 60 _ [(site 11 22, Dec.b true), (site 11 23, Dec.row (Evt.row e)), (site 11 27, Dec.b false), (site 11 31, Dec.b false), (site 11 35, Dec.idx k), (site 11 8000, Dec.sto (evCells nx')), (site 11 41, Dec.b false), (site 11 50, Dec.ld (AV.agg (Evt.av u))), (site 11 51, Dec.eqv true), (site 11 55, Dec.ld (vb false)), (site 11 67, Dec.ld (vb true)), (site 11 8000, Dec.sto (evCells nx'2)), (site 11 71, Dec.int i71), (site 11 8002, Dec.drop [90118] [3, 19, 20, 21]), (site 11 8001, Dec.loop [3, 19, 20, 21] x s)] _ [] _ (by kernel_rfl) (AllP_cons h1 (AllP_cons h2 (AllP_cons h3 (AllP_cons h4 (AllP_cons h5 (AllP_cons h6 (AllP_cons h7 (AllP_cons h8 (AllP_cons h9 (AllP_cons h10 (AllP_cons h11 (AllP_cons h12 (AllP_cons h13 (AllP_cons (rfl : true = true) (AllP_cons h14 (AllP_cons (rfl : true = true) (AllP_cons h15 AllP_nil)))))))))))))))))
theorem rt_ynnnet2t2L (full : Bool) (rows : List (List DV)) (n : Int) (i : Int) (nx : List Evt) (e : Evt) (k : Nat) (nx' : List Evt) (u : Evt) (nx'2 : List Evt) (i71 : Int) (x : X) (s : St) (h1 : decide (i < n) = true) (h2 : 0 ≤ i ∧ rows[Int.toNat i]? = some (Evt.row e)) (h3 : decide (e.th < 0) = false) (h4 : decide (e.th ≥ 64) = false) (h5 : e.th = ↑k ∧ k < 64) (h6 : stoEq C0 49 (evCells nx) (0 + k * 7 + 3) (AV.agg [vi 0, vi 0, vi 0, vi 0]) (evCells nx')) (h7 : e.re = false) (h8 : asCells C0 51 (evCells nx') (0 + k * 7) = some (AV.agg [vi u.1, vi u.2, vb u.3, vi u.an.1, vi u.an.2, vi u.an.3, vi u.an.4])) (h9 : still C0.P (Op.equal 51 (Value.agg #[Value.int IntKind.i64 e.1, Value.int IntKind.i64 e.2, Value.bool e.3, Value.int IntKind.i64 e.an.1, Value.int IntKind.i64 e.an.2, Value.int IntKind.i64 e.an.3, Value.int IntKind.i64 e.an.4]) (Value.agg #[Value.int IntKind.i64 u.1, Value.int IntKind.i64 u.2, Value.bool u.3, Value.int IntKind.i64 u.an.1, Value.int IntKind.i64 u.an.2, Value.int IntKind.i64 u.an.3, Value.int IntKind.i64 u.an.4])) = some true) (h10 : asCells C0 4 (evCells nx') (0 + k * 7 + 2) = some (vb false)) (h11 : asCells C0 4 (evCells nx') (0 + k * 7 + 2) = some (vb false)) (h12 : stoEq C0 4 (evCells nx') (0 + k * 7 + 2) (vb true) (evCells nx'2)) (h13 : wr64 (i + 1) = i71) (h14 : hFree [90118] { objs := [(90115, 1, [AO.cells (evCells nx'2) false]), (90118, 1, [AO.cells [vi e.1, vi e.2, vb e.3, vi e.an.1, vi e.an.2, vi e.an.3, vi e.an.4] false])] } = true) (h15 : Ev C0 noO (Task.code 11 false (loopOf Try.prog 11 1) { σ := slots 72 [(3, AV.ptr 90115 0 0), (19, AV.d (DV.sl 7 full rows)), (20, vi n), (21, vi i71)], h := { objs := [(90115, 1, [AO.cells (evCells nx'2) false])] } }) (Res.code x s)) :
    Ev C0 noO (Task.code 11 false (loopOf Try.prog 11 1) { σ := slots 72 [(3, AV.ptr (site 11 3) 0 0), (19, AV.d (DV.sl 7 full rows)), (20, vi n), (21, vi i)], h := H.push { } (site 11 3) (AO.cells (evCells nx) false) }) (.code (x) s) :=
  sym_ev 60 _ [(site 11 22, Dec.b true), (site 11 23, Dec.row (Evt.row e)), (site 11 27, Dec.b false), (site 11 31, Dec.b false), (site 11 35, Dec.idx k), (site 11 8000, Dec.sto (evCells nx')), (site 11 41, Dec.b false), (site 11 50, Dec.ld (AV.agg (Evt.av u))), (site 11 51, Dec.eqv true), (site 11 55, Dec.ld (vb false)), (site 11 67, Dec.ld (vb false)), (site 11 8000, Dec.sto (evCells nx'2)), (site 11 71, Dec.int i71), (site 11 8002, Dec.drop [90118] [3, 19, 20, 21]), (site 11 8001, Dec.loop [3, 19, 20, 21] x s)] _ [] _ (by kernel_rfl) (AllP_cons h1 (AllP_cons h2 (AllP_cons h3 (AllP_cons h4 (AllP_cons h5 (AllP_cons h6 (AllP_cons h7 (AllP_cons h8 (AllP_cons h9 (AllP_cons h10 (AllP_cons h11 (AllP_cons h12 (AllP_cons h13 (AllP_cons (rfl : true = true) (AllP_cons h14 (AllP_cons (rfl : true = true) (AllP_cons h15 AllP_nil)))))))))))))))))
theorem rt_ynnnd (full : Bool) (rows : List (List DV)) (n : Int) (i : Int) (nx : List Evt) (e : Evt) (k : Nat) (nx' : List Evt) (u : Evt) (h1 : decide (i < n) = true) (h2 : 0 ≤ i ∧ rows[Int.toNat i]? = some (Evt.row e)) (h3 : decide (e.th < 0) = false) (h4 : decide (e.th ≥ 64) = false) (h5 : e.th = ↑k ∧ k < 64) (h6 : stoEq C0 49 (evCells nx) (0 + k * 7 + 3) (AV.agg [vi 0, vi 0, vi 0, vi 0]) (evCells nx')) (h7 : e.re = false) (h8 : asCells C0 51 (evCells nx') (0 + k * 7) = some (AV.agg [vi u.1, vi u.2, vb u.3, vi u.an.1, vi u.an.2, vi u.an.3, vi u.an.4])) (h9 : still C0.P (Op.equal 51 (Value.agg #[Value.int IntKind.i64 e.1, Value.int IntKind.i64 e.2, Value.bool e.3, Value.int IntKind.i64 e.an.1, Value.int IntKind.i64 e.an.2, Value.int IntKind.i64 e.an.3, Value.int IntKind.i64 e.an.4]) (Value.agg #[Value.int IntKind.i64 u.1, Value.int IntKind.i64 u.2, Value.bool u.3, Value.int IntKind.i64 u.an.1, Value.int IntKind.i64 u.an.2, Value.int IntKind.i64 u.an.3, Value.int IntKind.i64 u.an.4])) = some false) (h10 : hFree [90118] { objs := [(90115, 1, [AO.cells (evCells nx') false]), (90118, 1, [AO.cells [vi e.1, vi e.2, vb e.3, vi e.an.1, vi e.an.2, vi e.an.3, vi e.an.4] false])] } = true) :
    Ev C0 noO (Task.code 11 false (loopOf Try.prog 11 1) { σ := slots 72 [(3, AV.ptr (site 11 3) 0 0), (19, AV.d (DV.sl 7 full rows)), (20, vi n), (21, vi i)], h := H.push { } (site 11 3) (AO.cells (evCells nx) false) }) (.code (X.ret) { σ := slots 72 [(2, vb false)], h := { objs := [(90115, 1, [AO.cells (evCells nx') false])] } }) :=
  symD_ev (n := 60) (sc := [(site 11 22, Dec.b true), (site 11 23, Dec.row (Evt.row e)), (site 11 27, Dec.b false), (site 11 31, Dec.b false), (site 11 35, Dec.idx k), (site 11 8000, Dec.sto (evCells nx')), (site 11 41, Dec.b false), (site 11 50, Dec.ld (AV.agg (Evt.av u))), (site 11 51, Dec.eqv false)]) (keep := [2]) (L := [90118]) (sc' := []) (by kernel_rfl) (AllP_cons h1 (AllP_cons h2 (AllP_cons h3 (AllP_cons h4 (AllP_cons h5 (AllP_cons h6 (AllP_cons h7 (AllP_cons h8 (AllP_cons h9 (AllP_cons (rfl : true = true) (AllP_cons h10 (AllP_cons (rfl : true = true) AllP_nil))))))))))))
theorem rt_n (full : Bool) (rows : List (List DV)) (n : Int) (i : Int) (nx : List Evt) (h1 : decide (i < n) = false) (h2 : hFree [90118] { objs := [(90115, 1, [AO.cells (evCells nx) false])] } = true) :
    Ev C0 noO (Task.code 11 false (loopOf Try.prog 11 1) { σ := slots 72 [(3, AV.ptr (site 11 3) 0 0), (19, AV.d (DV.sl 7 full rows)), (20, vi n), (21, vi i)], h := H.push { } (site 11 3) (AO.cells (evCells nx) false) }) (.code (X.exit 2) { σ := slots 72 [], h := { objs := [(90115, 1, [AO.cells (evCells nx) false])] } }) :=
  symD_ev (n := 60) (sc := [(site 11 22, Dec.b false)]) (keep := []) (L := [90118]) (sc' := []) (by kernel_rfl) (AllP_cons h1 (AllP_cons (rfl : true = true) (AllP_cons h2 (AllP_cons (rfl : true = true) AllP_nil))))

end Go.Ev

namespace Go.Ev
open Go Go.RowKit Go.Proofs

/-! ### cells of an array, a part for each element -/
section
variable {α : Type} {f : α → List AV} {w : Nat}
theorem fl_len (hw : ∀ a, (f a).length = w) (l : List α) : (l.flatMap f).length = l.length * w := by
  induction l with
  | nil => simp
  | cons a l ih => simp [List.flatMap_cons, hw, ih, Nat.succ_mul]; omega
theorem fl_split (hw : ∀ a, (f a).length = w) {l : List α} {k : Nat} {a : α} (h : l[k]? = some a) :
    l.flatMap f = (l.take k).flatMap f ++ (f a ++ (l.drop (k + 1)).flatMap f) ∧ ((l.take k).flatMap f).length = k * w := by
  obtain ⟨hk, rfl⟩ := List.getElem?_eq_some_iff.1 h
  refine ⟨?_, by rw [fl_len hw, List.length_take, Nat.min_eq_left (by omega)]⟩
  rw [← List.flatMap_cons, ← List.flatMap_append, List.getElem_cons_drop, List.take_append_drop]
theorem fl_get (hw : ∀ a, (f a).length = w) {l : List α} {k j : Nat} {a : α} {x : AV} (h : l[k]? = some a) (hx : (f a)[j]? = some x) : (l.flatMap f)[0 + k * w + j]? = some x := by
  obtain ⟨h1, h2⟩ := fl_split hw h
  have hj := (List.getElem?_eq_some_iff.1 hx).1
  rw [h1, List.getElem?_append_right (by omega), h2, show 0 + k * w + j - k * w = j by omega, List.getElem?_append_left hj]
  exact hx
theorem fl_take (hw : ∀ a, (f a).length = w) {l : List α} {k : Nat} {a : α} (h : l[k]? = some a) : takeCells (l.flatMap f) (0 + k * w) w = some (f a) := by
  obtain ⟨h1, h2⟩ := fl_split hw h
  have hl := congrArg List.length h1
  simp only [List.length_append, h2, hw] at hl
  unfold takeCells
  rw [if_pos (by omega)]
  congr 1
  rw [h1, List.drop_append, List.drop_of_length_le (by omega), h2, show 0 + k * w - k * w = 0 by omega]
  simp [hw]
theorem putCells_append : ∀ (l A B : List AV) (j : Nat), putCells (A ++ B) (A.length + j) l = A ++ putCells B j l
  | [], A, B, j => rfl
  | x :: l, A, B, j => by
    simp only [putCells]
    rw [List.set_append_right _ _ (by omega), show A.length + j - A.length = j by omega, show A.length + j + 1 = A.length + (j + 1) by omega]
    exact putCells_append l A _ _
theorem putCells_left : ∀ (l B D : List AV) (j : Nat), j + l.length ≤ B.length → putCells (B ++ D) j l = putCells B j l ++ D
  | [], B, D, j, _ => rfl
  | x :: l, B, D, j, h => by
    simp only [List.length_cons] at h
    simp only [putCells]
    rw [List.set_append_left _ _ (by omega)]
    exact putCells_left l _ D _ (by simp; omega)
theorem fl_put (hw : ∀ a, (f a).length = w) {l : List α} {k j : Nat} {a a' : α} {xs : List AV} (h : l[k]? = some a) (hx : putCells (f a) j xs = f a') (hj : j + xs.length ≤ w) :
    putCells (l.flatMap f) (0 + k * w + j) xs = (l.set k a').flatMap f ∧ 0 + k * w + j + xs.length ≤ (l.flatMap f).length := by
  obtain ⟨h1, h2⟩ := fl_split hw h
  have hk := (List.getElem?_eq_some_iff.1 h).1
  have hl := congrArg List.length h1
  simp only [List.length_append, h2, hw] at hl
  refine ⟨?_, by omega⟩
  have h' : (l.set k a')[k]? = some a' := by simp [hk]
  obtain ⟨g1, g2⟩ := fl_split hw h'
  rw [g1, h1, show 0 + k * w + j = ((l.take k).flatMap f).length + j by omega, putCells_append, putCells_left _ _ _ _ (by rw [hw]; exact hj), hx]
  have ht : (l.set k a').take k = l.take k := by rw [List.take_set, List.set_eq_of_length_le (by simp; omega)]
  rw [ht]
  simp [List.drop_set]
end

theorem avFreeL_append (L : List Nat) : ∀ (a b : List AV), avFreeL L (a ++ b) = (avFreeL L a && avFreeL L b)
  | [], b => rfl
  | x :: a, b => by simp [avFreeL, avFreeL_append L a b, Bool.and_assoc]
theorem avFreeL_flat {α : Type} {f : α → List AV} (L : List Nat) (hf : ∀ a, avFreeL L (f a) = true) (l : List α) : avFreeL L (l.flatMap f) = true := by
  induction l with
  | nil => rfl
  | cons a l ih => rw [List.flatMap_cons, avFreeL_append, hf, ih]; rfl
theorem evAv_len (e : Evt) : e.av.length = 7 := rfl
theorem evAv_free (L : List Nat) (e : Evt) : avFreeL L e.av = true := rfl
theorem evCells_free (L : List Nat) (l : List Evt) : avFreeL L (evCells l) = true := avFreeL_flat L (evAv_free L) l

theorem agg51 {C : Ctx} (hC : C.P = Try.prog) : isAggT C 51 = some true ∧ sizeT C 51 = some 7 := by unfold isAggT sizeT; rw [hC]; exact ⟨by kernel_rfl, by kernel_rfl⟩
theorem agg49 {C : Ctx} (hC : C.P = Try.prog) : isAggT C 49 = some true ∧ sizeT C 49 = some 4 := by unfold isAggT sizeT; rw [hC]; exact ⟨by kernel_rfl, by kernel_rfl⟩
theorem agg3 {C : Ctx} (hC : C.P = Try.prog) : isAggT C 3 = some false ∧ sizeT C 3 = some 1 := by unfold isAggT sizeT; rw [hC]; exact ⟨by kernel_rfl, by kernel_rfl⟩
theorem agg4 {C : Ctx} (hC : C.P = Try.prog) : isAggT C 4 = some false ∧ sizeT C 4 = some 1 := by unfold isAggT sizeT; rw [hC]; exact ⟨by kernel_rfl, by kernel_rfl⟩

theorem ev_ld {C : Ctx} (hC : C.P = Try.prog) {nx : List Evt} {k : Nat} {n : Evt} (h : nx[k]? = some n) : asCells C 51 (evCells nx) (0 + k * 7) = some (.agg n.av) := by
  unfold asCells
  rw [(agg51 hC).1, (agg51 hC).2]
  simp only [evCells, fl_take evAv_len h]
theorem ev_ld3 {C : Ctx} (hC : C.P = Try.prog) {nx : List Evt} {k : Nat} {n : Evt} (h : nx[k]? = some n) : asCells C 3 (evCells nx) (0 + k * 7 + 1) = some (vi n.ca) := by
  unfold asCells
  rw [(agg3 hC).1, (agg3 hC).2]
  exact fl_get evAv_len h rfl
theorem ev_ld4 {C : Ctx} (hC : C.P = Try.prog) {nx : List Evt} {k : Nat} {n : Evt} (h : nx[k]? = some n) : asCells C 4 (evCells nx) (0 + k * 7 + 2) = some (vb n.re) := by
  unfold asCells
  rw [(agg4 hC).1, (agg4 hC).2]
  exact fl_get evAv_len h rfl
theorem ev_st49 {C : Ctx} (hC : C.P = Try.prog) {nx : List Evt} {k : Nat} {n : Evt} (a : Ans) (h : nx[k]? = some n) : stoEq C 49 (evCells nx) (0 + k * 7 + 3) a.av (evCells (nx.set k { n with an := a })) := by
  obtain ⟨h1, h2⟩ := fl_put (j := 3) (a' := { n with an := a }) (xs := cellsA a.av) evAv_len h rfl (Nat.le_refl 7)
  exact ⟨4, (agg49 hC).2, rfl, h2, rfl, h1.symm⟩
theorem ev_st3 {C : Ctx} (hC : C.P = Try.prog) {nx : List Evt} {k : Nat} {n : Evt} (c : Int) (h : nx[k]? = some n) : stoEq C 3 (evCells nx) (0 + k * 7 + 1) (vi c) (evCells (nx.set k { n with ca := c })) := by
  obtain ⟨h1, h2⟩ := fl_put (j := 1) (a' := { n with ca := c }) (xs := cellsA (vi c)) evAv_len h rfl (by simp [cellsA, vi])
  exact ⟨1, (agg3 hC).2, rfl, h2, rfl, h1.symm⟩
theorem ev_st4 {C : Ctx} (hC : C.P = Try.prog) {nx : List Evt} {k : Nat} {n : Evt} (b : Bool) (h : nx[k]? = some n) : stoEq C 4 (evCells nx) (0 + k * 7 + 2) (vb b) (evCells (nx.set k { n with re := b })) := by
  obtain ⟨h1, h2⟩ := fl_put (j := 2) (a' := { n with re := b }) (xs := cellsA (vb b)) evAv_len h rfl (by simp [cellsA, vb])
  exact ⟨1, (agg4 hC).2, rfl, h2, rfl, h1.symm⟩

/-! ### the law -/
/-- what is told of the next events of the threads, behind an event; none: it does not fit -/
def rtStep (nx : List Evt) (e : Evt) : Option (List Evt) :=
  if e.th < 0 ∨ e.th ≥ 64 then none else
  match nx[e.th.toNat]? with
  | none => none
  | some n => if e = { n with an := if e.re then e.an else ans0 } then some (nx.set e.th.toNat { e with ca := if e.re then e.ca + 1 else e.ca, re := !e.re }) else none
def rtL : List Evt → List Evt → Bool
  | _, [] => true
  | nx, e :: l => match rtStep nx e with
    | none => false
    | some nx' => rtL nx' l
def nx0 : List Evt := (List.range 64).map fun (i : Nat) => ⟨(i : Int), 0, false, ans0⟩
def rightB (l : List Evt) : Bool := if l.length > 2000 then false else rtL nx0 l

def rtH (o : AO) : H := ({} : H).push (site 11 3) o
def rtZero : List AV := (List.replicate 64 [vi 0, vi 0, vb false, vi 0, vi 0, vi 0, vi 0]).flatten
def rtHd (y : DV) (n i : Int) (nx : List Evt) : St := { σ := slots 72 [(3, .ptr (site 11 3) 0 0), (19, .d y), (20, vi n), (21, vi i)], h := rtH (.cells (evCells nx) false) }
def rtOut : Bool → X × St
  | true => (.exit 2, { σ := slots 72 [], h := rtH .dead })
  | false => (.ret, { σ := slots 72 [(2, vb false)], h := rtH .dead })

theorem rt_free (nx : List Evt) (cs : List AV) : hFree [90118] { objs := [(90115, 1, [AO.cells (evCells nx) false]), (90118, 1, [AO.cells cs false])] } = true := by
  simp [hFree, objFree, evCells_free]
theorem rt_free1 (nx : List Evt) : hFree [90118] { objs := [(90115, 1, [AO.cells (evCells nx) false])] } = true := by
  simp [hFree, objFree, evCells_free]
theorem killIt {fn : FuncId} {rd : Bool} {c : Code} {s : St} {x : X} {σ : List AV} {o : AO} (h : Ev C0 noO (.code fn rd c s) (.code x { σ := σ, h := rtH o })) : Ev C0 noO (.code fn rd c s) (.code x { σ := σ, h := rtH .dead }) :=
  .killOut _ _ _ _ _ _ (site 11 3) 0 o rfl h

theorem set_inv {α : Type} {nx : List α} {k : Nat} {P : α → Prop} {a : α} (h : ∀ (j : Nat) (n : α), nx[j]? = some n → P n) (ha : P a) : ∀ (j : Nat) (n : α), (nx.set k a)[j]? = some n → P n := by
  intro j n e
  rw [List.getElem?_set] at e
  by_cases hj : k = j
  · rw [if_pos hj] at e
    by_cases hl : k < nx.length
    · rw [if_pos hl] at e
      simp only [Option.some.injEq] at e
      subst e; exact ha
    · rw [if_neg hl] at e; cases e
  · rw [if_neg hj] at e
    exact h j n e

theorem rt_loop (full : Bool) (all : List Evt) (hb : all.length < 2 ^ 40) : ∀ (rest pre nx : List Evt), pre ++ rest = all → (∀ (k : Nat) (n : Evt), nx[k]? = some n → 0 ≤ n.ca ∧ n.ca ≤ pre.length) → nx.length = 64 →
    Ev C0 noO (.code 11 false (loopOf Try.prog 11 1) (rtHd (.sl 7 full (evRows all)) (all.length : Nat) (pre.length : Nat) nx)) (.code (rtOut (rtL nx rest)).1 (rtOut (rtL nx rest)).2)
  | [], pre, nx, h, hn, hl => killIt (o := .cells (evCells nx) false) (rt_n _ _ _ _ nx (dge (by subst h; simp)) (rt_free1 nx))
  | e :: rest, pre, nx, h, hn, hl => by
    have hlt := pre_lt h
    have hrow := row_at (g := Evt.row) h
    have hn' : ∀ (k : Nat) (n : Evt), nx[k]? = some n → 0 ≤ n.ca ∧ n.ca ≤ ((pre.length + 1 : Nat) : Int) := fun k n hk => by have := hn k n hk; omega
    have ih := fun nx' hi hl' => rt_loop full all hb rest (pre ++ [e]) nx' (pre_snoc h) hi hl'
    simp only [len_snoc] at ih
    unfold rtL rtStep
    by_cases h1 : e.th < 0
    · rw [if_pos (.inl h1)]
      exact killIt (o := .cells (evCells nx) false) (rt_yy _ _ _ _ nx e (dlt hlt) hrow (by simpa using h1) (rt_free nx _))
    by_cases h2 : e.th ≥ 64
    · rw [if_pos (.inr h2)]
      exact killIt (o := .cells (evCells nx) false) (rt_yny _ _ _ _ nx e (dlt hlt) hrow (by simpa using h1) (by simpa using h2) (rt_free nx _))
    rw [if_neg (by omega)]
    have hk : e.th.toNat < nx.length := by omega
    have hkn : nx[e.th.toNat]? = some nx[e.th.toNat] := List.getElem?_eq_getElem hk
    have hth : e.th = ((e.th.toNat : Nat) : Int) ∧ e.th.toNat < 64 := by omega
    generalize hkk : e.th.toNat = k at hk hkn hth ⊢
    generalize nx[k] = n at hkn
    have h1' : decide (e.th < 0) = false := by simpa using h1
    have h2' : decide (e.th ≥ 64) = false := by simpa using h2
    clear h1 h2 hkk h
    rw [hkn]
    simp only
    obtain ⟨hca1, hca2⟩ := hn k n hkn
    obtain ⟨eth, eca, ere, ean⟩ := e
    obtain ⟨nth, nca, nre, nan⟩ := n
    simp only at hth hca1 hca2 ⊢
    have s1 := ev_st49 (C := C0) rfl ans0 hkn
    have g1 : (nx.set k ⟨nth, nca, nre, ans0⟩)[k]? = some ⟨nth, nca, nre, ans0⟩ := by simp [hk]
    cases ere with
    | true =>
      have s2 := ev_st49 (C := C0) rfl ean g1
      have g2 : ((nx.set k ⟨nth, nca, nre, ans0⟩).set k ⟨nth, nca, nre, ean⟩)[k]? = some ⟨nth, nca, nre, ean⟩ := by simp [hk]
      have l1 := ev_ld (C := C0) rfl g2
      simp only [if_true]
      by_cases hq : (⟨eth, eca, true, ean⟩ : Evt) = ⟨nth, nca, nre, ean⟩
      · rw [if_pos hq]
        have hq' := hq
        simp only [Evt.mk.injEq, and_true] at hq'
        obtain ⟨rfl, rfl, rfl⟩ := hq'
        have l2 := ev_ld4 (C := C0) rfl g2
        have l3 := ev_ld3 (C := C0) rfl g2
        have s3 := ev_st3 (C := C0) rfl (eca + 1) g2
        have g3 : (((nx.set k ⟨eth, eca, true, ans0⟩).set k ⟨eth, eca, true, ean⟩).set k ⟨eth, eca + 1, true, ean⟩)[k]? = some ⟨eth, eca + 1, true, ean⟩ := by simp [hk]
        have l4 := ev_ld4 (C := C0) rfl g3
        have s4 := ev_st4 (C := C0) rfl false g3
        have e5 : ((((nx.set k ⟨eth, eca, true, ans0⟩).set k ⟨eth, eca, true, ean⟩).set k ⟨eth, eca + 1, true, ean⟩).set k ⟨eth, eca + 1, false, ean⟩) = nx.set k ⟨eth, eca + 1, !true, ean⟩ := by simp only [List.set_set]; rfl
        rw [e5] at s4
        exact rt_ynnyet1t1L _ _ _ _ nx ⟨eth, eca, true, ean⟩ k _ _ ⟨eth, eca, true, ean⟩ eca (eca + 1) _ _ ((pre.length + 1 : Nat) : Int) _ _ (dlt hlt) hrow h1' h2' hth s1 rfl s2 l1
          ((eq51 ⟨eth, eca, true, ean⟩ ⟨eth, eca, true, ean⟩).trans (by simp)) l2 l3 (wrap_ok (by omega) (by omega)) s3 l4 s4 (wrap_succ (by omega)) (rt_free _ _)
          (ih _ (set_inv hn' (by simp only; omega)) (by simpa using hl))
      · rw [if_neg hq]
        exact killIt (o := .cells (evCells ((nx.set k ⟨nth, nca, nre, ans0⟩).set k ⟨nth, nca, nre, ean⟩)) false) (rt_ynnyd _ _ _ _ nx ⟨eth, eca, true, ean⟩ k _ _ ⟨nth, nca, nre, ean⟩ (dlt hlt) hrow h1' h2' hth s1 rfl s2 l1
          ((eq51 ⟨eth, eca, true, ean⟩ ⟨nth, nca, nre, ean⟩).trans (by rw [decide_eq_false hq])) (rt_free _ _))
    | false =>
      have l1 := ev_ld (C := C0) rfl g1
      simp only [Bool.false_eq_true, if_false]
      by_cases hq : (⟨eth, eca, false, ean⟩ : Evt) = ⟨nth, nca, nre, ans0⟩
      · rw [if_pos hq]
        have hq' := hq
        simp only [Evt.mk.injEq] at hq'
        obtain ⟨rfl, rfl, rfl, rfl⟩ := hq'
        have l2 := ev_ld4 (C := C0) rfl g1
        have s4 := ev_st4 (C := C0) rfl true g1
        have e5 : ((nx.set k ⟨eth, eca, false, ans0⟩).set k ⟨eth, eca, true, ans0⟩) = nx.set k ⟨eth, eca, !false, ans0⟩ := by simp only [List.set_set]; rfl
        rw [e5] at s4
        exact rt_ynnnet2t2L _ _ _ _ nx ⟨eth, eca, false, ans0⟩ k _ ⟨eth, eca, false, ans0⟩ _ ((pre.length + 1 : Nat) : Int) _ _ (dlt hlt) hrow h1' h2' hth s1 rfl l1
          ((eq51 ⟨eth, eca, false, ans0⟩ ⟨eth, eca, false, ans0⟩).trans (by simp)) l2 l2 s4 (wrap_succ (by omega)) (rt_free _ _)
          (ih _ (set_inv hn' (by simp only; omega)) (by simpa using hl))
      · rw [if_neg hq]
        exact killIt (o := .cells (evCells (nx.set k ⟨nth, nca, nre, ans0⟩)) false) (rt_ynnnd _ _ _ _ nx ⟨eth, eca, false, ean⟩ k _ ⟨nth, nca, nre, ans0⟩ (dlt hlt) hrow h1' h2' hth s1 rfl l1
          ((eq51 ⟨eth, eca, false, ean⟩ ⟨nth, nca, nre, ans0⟩).trans (by rw [decide_eq_false hq])) (rt_free _ _))

end Go.Ev

namespace Go.Ev
open Go Go.RowKit Go.Proofs

theorem rtc_y (full : Bool) (rows : List (List DV)) (i9 : Int) (h1 : ↑(List.length rows) = i9) (h2 : decide (i9 > 2000) = true) :
    Ev C0 noO (Task.call 11 [AV.d (DV.sl 7 full rows)] { }) (.val (vb false) { }) :=
  sym_ev 60 _ [(site 11 9, Dec.int i9), (site 11 10, Dec.b true)] _ [] _ (by kernel_rfl) (AllP_cons h1 (AllP_cons h2 AllP_nil))
theorem rtc_nl1 (full : Bool) (rows : List (List DV)) (i9 : Int) (i20 : Int) (h1 : ↑(List.length rows) = i9) (h2 : decide (i9 > 2000) = false) (h3 : Ev C0 noO (Task.code 11 false (loopOf Try.prog 11 0) { σ := slots 72 [(0, AV.d (DV.sl 7 full rows)), (3, AV.ptr 90115 0 0), (11, vi 0)], h := { objs := [(90115, 1, [AO.cells rtZero false])] } }) (Res.code (X.exit 0) { σ := slots 72 [(0, AV.d (DV.sl 7 full rows)), (3, AV.ptr (site 11 3) 0 0)], h := rtH (AO.cells (evCells nx0) false) })) (h4 : ↑(List.length rows) = i20) (h5 : Ev C0 noO (Task.code 11 false (loopOf Try.prog 11 1) { σ := slots 72 [(3, AV.ptr 90115 0 0), (19, AV.d (DV.sl 7 full rows)), (20, vi i20), (21, vi 0)], h := { objs := [(90115, 1, [AO.cells (evCells nx0) false])] } }) (Res.code (X.exit 2) { σ := slots 72 [], h := rtH AO.dead })) :
    Ev C0 noO (Task.call 11 [AV.d (DV.sl 7 full rows)] { }) (.val (vb true) { objs := [(90115, 1, [AO.dead])] }) :=
  sym_ev 60 _ [(site 11 9, Dec.int i9), (site 11 10, Dec.b false), (site 11 8001, Dec.loop [0, 3, 11] (X.exit 0) { σ := slots 72 [(0, AV.d (DV.sl 7 full rows)), (3, AV.ptr (site 11 3) 0 0)], h := rtH (AO.cells (evCells nx0) false) }), (site 11 20, Dec.int i20), (site 11 8001, Dec.loop [3, 19, 20, 21] (X.exit 2) { σ := slots 72 [], h := rtH AO.dead })] _ [] _ (by kernel_rfl) (AllP_cons h1 (AllP_cons h2 (AllP_cons h3 (AllP_cons h4 (AllP_cons h5 AllP_nil)))))
theorem rtc_nl2 (full : Bool) (rows : List (List DV)) (i9 : Int) (i20 : Int) (h1 : ↑(List.length rows) = i9) (h2 : decide (i9 > 2000) = false) (h3 : Ev C0 noO (Task.code 11 false (loopOf Try.prog 11 0) { σ := slots 72 [(0, AV.d (DV.sl 7 full rows)), (3, AV.ptr 90115 0 0), (11, vi 0)], h := { objs := [(90115, 1, [AO.cells rtZero false])] } }) (Res.code (X.exit 0) { σ := slots 72 [(0, AV.d (DV.sl 7 full rows)), (3, AV.ptr (site 11 3) 0 0)], h := rtH (AO.cells (evCells nx0) false) })) (h4 : ↑(List.length rows) = i20) (h5 : Ev C0 noO (Task.code 11 false (loopOf Try.prog 11 1) { σ := slots 72 [(3, AV.ptr 90115 0 0), (19, AV.d (DV.sl 7 full rows)), (20, vi i20), (21, vi 0)], h := { objs := [(90115, 1, [AO.cells (evCells nx0) false])] } }) (Res.code X.ret { σ := slots 72 [(2, vb false)], h := rtH AO.dead })) :
    Ev C0 noO (Task.call 11 [AV.d (DV.sl 7 full rows)] { }) (.val (vb false) { objs := [(90115, 1, [AO.dead])] }) :=
  sym_ev 60 _ [(site 11 9, Dec.int i9), (site 11 10, Dec.b false), (site 11 8001, Dec.loop [0, 3, 11] (X.exit 0) { σ := slots 72 [(0, AV.d (DV.sl 7 full rows)), (3, AV.ptr (site 11 3) 0 0)], h := rtH (AO.cells (evCells nx0) false) }), (site 11 20, Dec.int i20), (site 11 8001, Dec.loop [3, 19, 20, 21] X.ret { σ := slots 72 [(2, vb false)], h := rtH AO.dead })] _ [] _ (by kernel_rfl) (AllP_cons h1 (AllP_cons h2 (AllP_cons h3 (AllP_cons h4 (AllP_cons h5 AllP_nil)))))
theorem rtcN_ (h1 : Ev C0 noO (Task.code 11 false (loopOf Try.prog 11 0) { σ := slots 72 [(0, AV.d (DV.v (Value.slice none 0 0))), (3, AV.ptr 90115 0 0), (11, vi 0)], h := { objs := [(90115, 1, [AO.cells rtZero false])] } }) (Res.code (X.exit 0) { σ := slots 72 [(0, AV.d (DV.v (Value.slice none 0 0))), (3, AV.ptr (site 11 3) 0 0)], h := rtH (AO.cells (evCells nx0) false) })) (h2 : Ev C0 noO (Task.code 11 false (loopOf Try.prog 11 1) { σ := slots 72 [(3, AV.ptr 90115 0 0), (19, AV.d (DV.v (Value.slice none 0 0))), (20, vi 0), (21, vi 0)], h := { objs := [(90115, 1, [AO.cells (evCells nx0) false])] } }) (Res.code (X.exit 2) { σ := slots 72 [], h := rtH AO.dead })) :
    Ev C0 noO (Task.call 11 [AV.d (DV.v (Value.slice none 0 0))] { }) (.val (vb true) { objs := [(90115, 1, [AO.dead])] }) :=
  sym_ev 60 _ [(site 11 8001, Dec.loop [0, 3, 11] (X.exit 0) { σ := slots 72 [(0, AV.d (DV.v (Value.slice none 0 0))), (3, AV.ptr (site 11 3) 0 0)], h := rtH (AO.cells (evCells nx0) false) }), (site 11 8001, Dec.loop [3, 19, 20, 21] (X.exit 2) { σ := slots 72 [], h := rtH AO.dead })] _ [] _ (by kernel_rfl) (AllP_cons h1 (AllP_cons h2 AllP_nil))
theorem rtA_n (y : DV) (n : Int) (i : Int) (nx : List Evt) (h1 : decide (i < n) = false) (h2 : hFree [90118] { objs := [(90115, 1, [AO.cells (evCells nx) false])] } = true) :
    Ev C0 noO (Task.code 11 false (loopOf Try.prog 11 1) (rtHd y n i nx)) (.code (X.exit 2) { σ := slots 72 [], h := { objs := [(90115, 1, [AO.cells (evCells nx) false])] } }) :=
  symD_ev (n := 60) (sc := [(site 11 22, Dec.b false)]) (keep := []) (L := [90118]) (sc' := []) (by kernel_rfl) (AllP_cons h1 (AllP_cons (rfl : true = true) (AllP_cons h2 (AllP_cons (rfl : true = true) AllP_nil))))

end Go.Ev

namespace Go.Ev
open Go Go.RowKit Go.Proofs

theorem rt0 (y : DV) : Ev C0 noO (.code 11 false (loopOf Try.prog 11 0) { σ := slots 72 [(0, .d y), (3, .ptr 90115 0 0), (11, vi 0)], h := { objs := [(90115, 1, [.cells rtZero false])] } })
    (.code (.exit 0) { σ := slots 72 [(0, .d y), (3, .ptr (site 11 3) 0 0)], h := rtH (.cells (evCells nx0) false) }) :=
  symM_ev (n := 200) (sc := []) (keep := [0, 3]) (sc' := []) (by kernel_rfl) AllP_nil

def rightSpec : List PV → Option (List PV)
  | [p] => match evtsOf p with
    | some l => if l.length < 2 ^ 40 then some [pbool (rightB l)] else none
    | none => none
  | _ => none
theorem nx0_inv : ∀ (k : Nat) (n : Evt), nx0[k]? = some n → 0 ≤ n.ca ∧ n.ca ≤ ((0 : Nat) : Int) := by
  intro k n h
  simp only [nx0, List.getElem?_map, Option.map_eq_some_iff] at h
  obtain ⟨i, _, rfl⟩ := h
  simp
theorem right_sat : Sat C0 11 rightSpec := by
  refine sat_of_ev (O := noO) hP0 (fun _ _ h => h.elim) hm0 fun ps rs hs => ?_
  unfold rightSpec at hs
  split at hs
  · split at hs
    · rename_i p l hl
      split at hs
      · rename_i hb
        simp only [Option.some.injEq] at hs
        subst hs
        rcases evtsOf_cases hl with ⟨rfl, rfl⟩ | ⟨full, rfl⟩
        · have h1 := killIt (o := .cells (evCells nx0) false) (rtA_n (.v (.slice none 0 0)) 0 0 nx0 (by decide) (rt_free1 nx0))
          exact ⟨_, _, _, rtcN_ (rt0 _) h1, rfl⟩
        · unfold rightB
          by_cases hlen : l.length > 2000
          · rw [if_pos hlen]
            exact ⟨_, _, _, rtc_y full _ (l.length : Nat) (by simp [evRows]) (by simp; omega), rfl⟩
          · rw [if_neg hlen]
            have h2 := rt_loop full l hb l [] nx0 rfl nx0_inv (by simp [nx0])
            have hlen' : decide (((l.length : Nat) : Int) > 2000) = false := by simp; omega
            cases e : rtL nx0 l with
            | true =>
              rw [e] at h2
              exact ⟨_, _, _, rtc_nl1 full _ (l.length : Nat) (l.length : Nat) (by simp [evRows]) hlen' (rt0 _) (by simp [evRows]) h2, rfl⟩
            | false =>
              rw [e] at h2
              exact ⟨_, _, _, rtc_nl2 full _ (l.length : Nat) (l.length : Nat) (by simp [evRows]) hlen' (rt0 _) (by simp [evRows]) h2, rfl⟩
      · cases hs
    · cases hs
  · cases hs

end Go.Ev

namespace Go.Ev
open Go Go.RowKit Go.Proofs

abbrev S4 := Int × Int × Int × Int
def rowS (s : S4) : List DV := [di s.1, di s.2.1, di s.2.2.1, di s.2.2.2]
def aggS (s : S4) : AV := .agg [vi s.1, vi s.2.1, vi s.2.2.1, vi s.2.2.2]
def vS (s : S4) : Value := .agg #[.int .i64 s.1, .int .i64 s.2.1, .int .i64 s.2.2.1, .int .i64 s.2.2.2]
def rowsS (l : List S4) : List (List DV) := l.map rowS
def s4I : List DV → Option S4
  | [.v (.int .i64 a), .v (.int .i64 b), .v (.int .i64 c), .v (.int .i64 d)] => some (a, b, c, d)
  | _ => none
theorem s4I_eq {r : List DV} {s : S4} (h : s4I r = some s) : r = rowS s := by
  unfold s4I at h
  split at h
  · simp only [Option.some.injEq] at h; subst h; rfl
  · cases h
def spansOf (p : PV) : Option (List S4) := match sliceOf 4 p with
  | some rows => allSome s4I rows
  | none => none
theorem spansOf_cases {p : PV} {l : List S4} (h : spansOf p = some l) : (p = .one (.v (.slice none 0 0)) ∧ l = []) ∨ ∃ full, p = .one (.sl 4 full (rowsS l)) := by
  unfold spansOf at h
  split at h
  · rename_i rows hr
    rcases sliceOf_cases hr with ⟨rfl, rfl⟩ | ⟨full, rfl⟩
    · simp [allSome] at h; exact .inl ⟨rfl, h⟩
    · exact .inr ⟨full, by rw [rows_eq (g := rowS) (fun _ _ => s4I_eq) h]; rfl⟩
  · cases h
def nilPV : PV := .one (.v (.slice none 0 0))
/-- a slice made by appending -/
def madePV (sz : Nat) (rows : List (List DV)) : PV := if rows.isEmpty then nilPV else .one (.sl sz false rows)
theorem evtsOf_made (l : List Evt) : evtsOf (madePV 7 (evRows l)) = some l := by
  unfold madePV
  split
  · rename_i h
    have : l = [] := by simpa [evRows] using h
    subst this; rfl
  · simp [evtsOf, sliceOf, evRows, allSome_map evtI_row]
theorem spansOf_made (l : List S4) : spansOf (madePV 4 (rowsS l)) = some l := by
  unfold madePV
  split
  · rename_i h
    have : l = [] := by simpa [rowsS] using h
    subst this; rfl
  · simp [spansOf, sliceOf, rowsS, allSome_map (f := s4I) (g := rowS) (fun _ => rfl)]
theorem rowI_P (c : Int × Int) : rowI [.v (.int .i64 c.1), .v (.int .i64 c.2)] = some c := rfl
theorem callsOf_made (l : List (Int × Int)) : callsOf (madePV 2 (rowsP l)) = some l := by
  unfold madePV
  split
  · rename_i h
    have : l = [] := by simpa [rowsP] using h
    subst this; rfl
  · simp [callsOf, sliceOf, rowsP, allSome_map rowI_P]

def farC (l : List Int) : List AV := l.flatMap fun a => [vi a]
def far0 : List Int := List.replicate 64 0
def farH (l : List Int) : H := ({} : H).push (site 12 10) (.cells (farC l) false)

/-! ### contexts out of lists -/
abbrev Spec := List PV → Option (List PV)
def primL : List (FuncId × Spec) → FuncId → Option Spec
  | [], _ => none
  | (g, s) :: r, f => if f = g then some s else primL r f
theorem PrimOK.ofList {C : Ctx} {l : List (FuncId × Spec)} (hp : C.prim = primL l) (h : ∀ x ∈ l, Sat C x.1 x.2 ∧ hasBody C x.1 = true) : PrimOK C := by
  intro f s e
  rw [hp] at e
  have key : ∀ l : List (FuncId × Spec), primL l f = some s → (f, s) ∈ l := by
    intro l
    induction l with
    | nil => intro h; cases h
    | cons x r ih =>
      intro h
      obtain ⟨g, t⟩ := x
      simp only [primL] at h
      split at h
      · rename_i hf
        simp only [Option.some.injEq] at h
        subst hf; subst h; simp
      · exact List.mem_cons_of_mem _ (ih h)
  obtain ⟨h1, h2⟩ := h _ (key l e)
  exact ⟨h1, hasBody_eq h2⟩

/-- the context in which Clone of events makes an array of its own -/
noncomputable def CW : Ctx := { P := Try.prog, wr := fun f d => f == 29 && d == 7 }
theorem hPW : PrimOK CW := fun g spec h => by cases h
def ofFn : AV := .fn (.fn (.func 30)) [] [.ptr (site 14 3) 0 0]
def ofH (k : Int) (l : List Evt) : H := (({} : H).push (site 14 3) (.cells [vi k] false)).push (site 29 7) (.cells (evCells l) false)
def ofS (n : Nat) : AV := .hs (site 29 7) 0 0 n 7

/-! ### equality of spans -/
theorem und44 : Try.prog.underlying 44 = some (.array 4 3) := by kernel_rfl
theorem part4_0 (x y z u : Int) : still Try.prog (part 3 #[.int .i64 x, .int .i64 y, .int .i64 z, .int .i64 u] 0) = some (.int .i64 x) := by kernel_rfl
theorem part4_1 (x y z u : Int) : still Try.prog (part 3 #[.int .i64 x, .int .i64 y, .int .i64 z, .int .i64 u] 1) = some (.int .i64 y) := by kernel_rfl
theorem part4_2 (x y z u : Int) : still Try.prog (part 3 #[.int .i64 x, .int .i64 y, .int .i64 z, .int .i64 u] 2) = some (.int .i64 z) := by kernel_rfl
theorem part4_3 (x y z u : Int) : still Try.prog (part 3 #[.int .i64 x, .int .i64 y, .int .i64 z, .int .i64 u] 3) = some (.int .i64 u) := by kernel_rfl
theorem eq44 (a b : S4) : still Try.prog (Op.equal 44 (vS a) (vS b)) = some (decide (a = b)) := by
  show still Try.prog (Op.equalIn (9998 + 1 + 1) 44 (vS a) (vS b)) = _
  unfold vS
  rw [Op.equalIn]
  simp only [still_bind, still_und und44, size3]
  simp only [Std.Legacy.Range.forIn_eq_forIn_range', Std.Legacy.Range.size, Nat.sub_zero, Nat.add_sub_cancel, Nat.div_one, List.range'_succ, List.range'_zero, List.forIn_cons, List.forIn_nil, still_bind, Nat.zero_mul, Nat.zero_add, Nat.mul_one, part4_0, part4_1, part4_2, part4_3, eq_int]
  obtain ⟨a1, a2, a3, a4⟩ := a
  obtain ⟨b1, b2, b3, b4⟩ := b
  by_cases h1 : a1 = b1
  · subst h1
    by_cases h2 : a2 = b2
    · subst h2
      by_cases h3 : a3 = b3
      · subst h3
        by_cases h4 : a4 = b4
        · subst h4
          simp [still_bind, part4_1, part4_2, part4_3, eq_int, still_pure]
        · have e : (a4 == b4) = false := beq_eq_false_iff_ne.2 h4
          simp [still_bind, part4_1, part4_2, part4_3, eq_int, still_pure, e, h4]
      · have e : (a3 == b3) = false := beq_eq_false_iff_ne.2 h3
        simp [still_bind, part4_1, part4_2, part4_3, eq_int, still_pure, e, h3]
    · have e : (a2 == b2) = false := beq_eq_false_iff_ne.2 h2
      simp [still_bind, part4_1, part4_2, part4_3, eq_int, still_pure, e, h2]
  · have e : (a1 == b1) = false := beq_eq_false_iff_ne.2 h1
    simp [still_bind, part4_1, part4_2, part4_3, eq_int, still_pure, e, h1]

end Go.Ev

namespace Go.Ev
open Go Go.RowKit Go.Proofs

theorem pl_yyyyy (full : Bool) (rows : List (List DV)) (i : Int) (c : Int × Int) (ret : Bool) (i10 : Int) (e : Evt) (e2 : Evt) (e3 : Evt) (b : Bool) (h1 : ↑(List.length rows) = i10) (h2 : decide (i < i10) = true) (h3 : 0 ≤ i ∧ rows[Int.toNat i]? = some (Evt.row e)) (h4 : (e.th == c.fst) = true) (h5 : 0 ≤ i ∧ rows[Int.toNat i]? = some (Evt.row e2)) (h6 : (e2.ca == c.snd) = true) (h7 : 0 ≤ i ∧ rows[Int.toNat i]? = some (Evt.row e3)) (h8 : e3.re = b) (h9 : ret = true) (h10 : (b == true) = true) :
    Ev C0 noO (Task.code 32 false (loopOf Try.prog 32 0) { σ := slots 42 [(0, AV.d (DV.sl 7 full rows)), (2, vb ret), (4, AV.ptr (site 32 4) 0 0), (7, vi i)], h := H.push { } (site 32 4) (AO.cells [vi c.fst, vi c.snd] false) }) (.code (X.ret) { σ := slots 42 [(6, vi i)], h := { objs := [(262148, 1, [AO.cells [vi c.1, vi c.2] false])] } }) :=
  symM_ev (n := 60) (sc := [(site 32 10, Dec.int i10), (site 32 11, Dec.b true), (site 32 16, Dec.row (Evt.row e)), (site 32 21, Dec.b true), (site 32 25, Dec.row (Evt.row e2)), (site 32 30, Dec.b true), (site 32 35, Dec.row (Evt.row e3)), (site 32 37, Dec.b b), (site 32 38, Dec.b true), (site 32 39, Dec.b true)]) (keep := [6]) (sc' := []) (by kernel_rfl) (AllP_cons h1 (AllP_cons h2 (AllP_cons h3 (AllP_cons h4 (AllP_cons h5 (AllP_cons h6 (AllP_cons h7 (AllP_cons h8 (AllP_cons h9 (AllP_cons h10 AllP_nil))))))))))
theorem pl_yyyynL (full : Bool) (rows : List (List DV)) (i : Int) (c : Int × Int) (ret : Bool) (i10 : Int) (e : Evt) (e2 : Evt) (e3 : Evt) (b : Bool) (i13 : Int) (x : X) (s : St) (h1 : ↑(List.length rows) = i10) (h2 : decide (i < i10) = true) (h3 : 0 ≤ i ∧ rows[Int.toNat i]? = some (Evt.row e)) (h4 : (e.th == c.fst) = true) (h5 : 0 ≤ i ∧ rows[Int.toNat i]? = some (Evt.row e2)) (h6 : (e2.ca == c.snd) = true) (h7 : 0 ≤ i ∧ rows[Int.toNat i]? = some (Evt.row e3)) (h8 : e3.re = b) (h9 : ret = true) (h10 : (b == true) = false) (h11 : wr64 (i + 1) = i13) (h12 : Ev C0 noO (Task.code 32 false (loopOf Try.prog 32 0) { σ := slots 42 [(0, AV.d (DV.sl 7 full rows)), (2, vb ret), (4, AV.ptr 262148 0 0), (7, vi i13)], h := { objs := [(262148, 1, [AO.cells [vi c.1, vi c.2] false])] } }) (Res.code x s)) :
    Ev C0 noO (Task.code 32 false (loopOf Try.prog 32 0) { σ := slots 42 [(0, AV.d (DV.sl 7 full rows)), (2, vb ret), (4, AV.ptr (site 32 4) 0 0), (7, vi i)], h := H.push { } (site 32 4) (AO.cells [vi c.fst, vi c.snd] false) }) (.code (x) s) :=
  sym_ev 60 _ [(site 32 10, Dec.int i10), (site 32 11, Dec.b true), (site 32 16, Dec.row (Evt.row e)), (site 32 21, Dec.b true), (site 32 25, Dec.row (Evt.row e2)), (site 32 30, Dec.b true), (site 32 35, Dec.row (Evt.row e3)), (site 32 37, Dec.b b), (site 32 38, Dec.b true), (site 32 39, Dec.b false), (site 32 13, Dec.int i13), (site 32 8001, Dec.loop [0, 2, 4, 7] x s)] _ [] _ (by kernel_rfl) (AllP_cons h1 (AllP_cons h2 (AllP_cons h3 (AllP_cons h4 (AllP_cons h5 (AllP_cons h6 (AllP_cons h7 (AllP_cons h8 (AllP_cons h9 (AllP_cons h10 (AllP_cons h11 (AllP_cons h12 AllP_nil))))))))))))
theorem pl_yyyny (full : Bool) (rows : List (List DV)) (i : Int) (c : Int × Int) (ret : Bool) (i10 : Int) (e : Evt) (e2 : Evt) (e3 : Evt) (b : Bool) (h1 : ↑(List.length rows) = i10) (h2 : decide (i < i10) = true) (h3 : 0 ≤ i ∧ rows[Int.toNat i]? = some (Evt.row e)) (h4 : (e.th == c.fst) = true) (h5 : 0 ≤ i ∧ rows[Int.toNat i]? = some (Evt.row e2)) (h6 : (e2.ca == c.snd) = true) (h7 : 0 ≤ i ∧ rows[Int.toNat i]? = some (Evt.row e3)) (h8 : e3.re = b) (h9 : ret = false) (h10 : (b == false) = true) :
    Ev C0 noO (Task.code 32 false (loopOf Try.prog 32 0) { σ := slots 42 [(0, AV.d (DV.sl 7 full rows)), (2, vb ret), (4, AV.ptr (site 32 4) 0 0), (7, vi i)], h := H.push { } (site 32 4) (AO.cells [vi c.fst, vi c.snd] false) }) (.code (X.ret) { σ := slots 42 [(6, vi i)], h := { objs := [(262148, 1, [AO.cells [vi c.1, vi c.2] false])] } }) :=
  symM_ev (n := 60) (sc := [(site 32 10, Dec.int i10), (site 32 11, Dec.b true), (site 32 16, Dec.row (Evt.row e)), (site 32 21, Dec.b true), (site 32 25, Dec.row (Evt.row e2)), (site 32 30, Dec.b true), (site 32 35, Dec.row (Evt.row e3)), (site 32 37, Dec.b b), (site 32 38, Dec.b false), (site 32 39, Dec.b true)]) (keep := [6]) (sc' := []) (by kernel_rfl) (AllP_cons h1 (AllP_cons h2 (AllP_cons h3 (AllP_cons h4 (AllP_cons h5 (AllP_cons h6 (AllP_cons h7 (AllP_cons h8 (AllP_cons h9 (AllP_cons h10 AllP_nil))))))))))
theorem pl_yyynnL (full : Bool) (rows : List (List DV)) (i : Int) (c : Int × Int) (ret : Bool) (i10 : Int) (e : Evt) (e2 : Evt) (e3 : Evt) (b : Bool) (i13 : Int) (x : X) (s : St) (h1 : ↑(List.length rows) = i10) (h2 : decide (i < i10) = true) (h3 : 0 ≤ i ∧ rows[Int.toNat i]? = some (Evt.row e)) (h4 : (e.th == c.fst) = true) (h5 : 0 ≤ i ∧ rows[Int.toNat i]? = some (Evt.row e2)) (h6 : (e2.ca == c.snd) = true) (h7 : 0 ≤ i ∧ rows[Int.toNat i]? = some (Evt.row e3)) (h8 : e3.re = b) (h9 : ret = false) (h10 : (b == false) = false) (h11 : wr64 (i + 1) = i13) (h12 : Ev C0 noO (Task.code 32 false (loopOf Try.prog 32 0) { σ := slots 42 [(0, AV.d (DV.sl 7 full rows)), (2, vb ret), (4, AV.ptr 262148 0 0), (7, vi i13)], h := { objs := [(262148, 1, [AO.cells [vi c.1, vi c.2] false])] } }) (Res.code x s)) :
    Ev C0 noO (Task.code 32 false (loopOf Try.prog 32 0) { σ := slots 42 [(0, AV.d (DV.sl 7 full rows)), (2, vb ret), (4, AV.ptr (site 32 4) 0 0), (7, vi i)], h := H.push { } (site 32 4) (AO.cells [vi c.fst, vi c.snd] false) }) (.code (x) s) :=
  sym_ev 60 _ [(site 32 10, Dec.int i10), (site 32 11, Dec.b true), (site 32 16, Dec.row (Evt.row e)), (site 32 21, Dec.b true), (site 32 25, Dec.row (Evt.row e2)), (site 32 30, Dec.b true), (site 32 35, Dec.row (Evt.row e3)), (site 32 37, Dec.b b), (site 32 38, Dec.b false), (site 32 39, Dec.b false), (site 32 13, Dec.int i13), (site 32 8001, Dec.loop [0, 2, 4, 7] x s)] _ [] _ (by kernel_rfl) (AllP_cons h1 (AllP_cons h2 (AllP_cons h3 (AllP_cons h4 (AllP_cons h5 (AllP_cons h6 (AllP_cons h7 (AllP_cons h8 (AllP_cons h9 (AllP_cons h10 (AllP_cons h11 (AllP_cons h12 AllP_nil))))))))))))
theorem pl_yynL (full : Bool) (rows : List (List DV)) (i : Int) (c : Int × Int) (ret : Bool) (i10 : Int) (e : Evt) (e2 : Evt) (i13 : Int) (x : X) (s : St) (h1 : ↑(List.length rows) = i10) (h2 : decide (i < i10) = true) (h3 : 0 ≤ i ∧ rows[Int.toNat i]? = some (Evt.row e)) (h4 : (e.th == c.fst) = true) (h5 : 0 ≤ i ∧ rows[Int.toNat i]? = some (Evt.row e2)) (h6 : (e2.ca == c.snd) = false) (h7 : wr64 (i + 1) = i13) (h8 : Ev C0 noO (Task.code 32 false (loopOf Try.prog 32 0) { σ := slots 42 [(0, AV.d (DV.sl 7 full rows)), (2, vb ret), (4, AV.ptr 262148 0 0), (7, vi i13)], h := { objs := [(262148, 1, [AO.cells [vi c.1, vi c.2] false])] } }) (Res.code x s)) :
    Ev C0 noO (Task.code 32 false (loopOf Try.prog 32 0) { σ := slots 42 [(0, AV.d (DV.sl 7 full rows)), (2, vb ret), (4, AV.ptr (site 32 4) 0 0), (7, vi i)], h := H.push { } (site 32 4) (AO.cells [vi c.fst, vi c.snd] false) }) (.code (x) s) :=
  sym_ev 60 _ [(site 32 10, Dec.int i10), (site 32 11, Dec.b true), (site 32 16, Dec.row (Evt.row e)), (site 32 21, Dec.b true), (site 32 25, Dec.row (Evt.row e2)), (site 32 30, Dec.b false), (site 32 13, Dec.int i13), (site 32 8001, Dec.loop [0, 2, 4, 7] x s)] _ [] _ (by kernel_rfl) (AllP_cons h1 (AllP_cons h2 (AllP_cons h3 (AllP_cons h4 (AllP_cons h5 (AllP_cons h6 (AllP_cons h7 (AllP_cons h8 AllP_nil))))))))
theorem pl_ynL (full : Bool) (rows : List (List DV)) (i : Int) (c : Int × Int) (ret : Bool) (i10 : Int) (e : Evt) (i13 : Int) (x : X) (s : St) (h1 : ↑(List.length rows) = i10) (h2 : decide (i < i10) = true) (h3 : 0 ≤ i ∧ rows[Int.toNat i]? = some (Evt.row e)) (h4 : (e.th == c.fst) = false) (h5 : wr64 (i + 1) = i13) (h6 : Ev C0 noO (Task.code 32 false (loopOf Try.prog 32 0) { σ := slots 42 [(0, AV.d (DV.sl 7 full rows)), (2, vb ret), (4, AV.ptr 262148 0 0), (7, vi i13)], h := { objs := [(262148, 1, [AO.cells [vi c.1, vi c.2] false])] } }) (Res.code x s)) :
    Ev C0 noO (Task.code 32 false (loopOf Try.prog 32 0) { σ := slots 42 [(0, AV.d (DV.sl 7 full rows)), (2, vb ret), (4, AV.ptr (site 32 4) 0 0), (7, vi i)], h := H.push { } (site 32 4) (AO.cells [vi c.fst, vi c.snd] false) }) (.code (x) s) :=
  sym_ev 60 _ [(site 32 10, Dec.int i10), (site 32 11, Dec.b true), (site 32 16, Dec.row (Evt.row e)), (site 32 21, Dec.b false), (site 32 13, Dec.int i13), (site 32 8001, Dec.loop [0, 2, 4, 7] x s)] _ [] _ (by kernel_rfl) (AllP_cons h1 (AllP_cons h2 (AllP_cons h3 (AllP_cons h4 (AllP_cons h5 (AllP_cons h6 AllP_nil))))))
theorem pl_n (full : Bool) (rows : List (List DV)) (i : Int) (c : Int × Int) (ret : Bool) (i10 : Int) (h1 : ↑(List.length rows) = i10) (h2 : decide (i < i10) = false) :
    Ev C0 noO (Task.code 32 false (loopOf Try.prog 32 0) { σ := slots 42 [(0, AV.d (DV.sl 7 full rows)), (2, vb ret), (4, AV.ptr (site 32 4) 0 0), (7, vi i)], h := H.push { } (site 32 4) (AO.cells [vi c.fst, vi c.snd] false) }) (.code (X.exit 0) { σ := slots 42 [], h := { objs := [(262148, 1, [AO.cells [vi c.1, vi c.2] false])] } }) :=
  symM_ev (n := 60) (sc := [(site 32 10, Dec.int i10), (site 32 11, Dec.b false)]) (keep := []) (sc' := []) (by kernel_rfl) (AllP_cons h1 (AllP_cons h2 AllP_nil))
theorem plA_ (c : Int × Int) (ret : Bool) :
    Ev C0 noO (Task.code 32 false (loopOf Try.prog 32 0) { σ := slots 42 [(0, AV.d (DV.v (Value.slice none 0 0))), (2, vb ret), (4, AV.ptr (site 32 4) 0 0), (7, vi 0)], h := H.push { } (site 32 4) (AO.cells [vi c.fst, vi c.snd] false) }) (.code (X.exit 0) { σ := slots 42 [], h := { objs := [(262148, 1, [AO.cells [vi c.1, vi c.2] false])] } }) :=
  symM_ev (n := 60) (sc := []) (keep := []) (sc' := []) (by kernel_rfl) AllP_nil
theorem plc_l1 (y : DV) (c : Int × Int) (ret : Bool) (k : Int) (h1 : Ev C0 noO (Task.code 32 false (loopOf Try.prog 32 0) { σ := slots 42 [(0, AV.d y), (2, vb ret), (4, AV.ptr 262148 0 0), (7, vi 0)], h := { objs := [(262148, 1, [AO.cells [vi c.1, vi c.2] false])] } }) (Res.code (X.exit 0) { σ := slots 42 [], h := H.push { } (site 32 4) (AO.cells [vi c.fst, vi c.snd] false) })) :
    Ev C0 noO (Task.call 32 [AV.d y, aggP c, vb ret] { }) (.val (vi (-1)) { objs := [(262148, 1, [AO.cells [vi c.1, vi c.2] false])] }) :=
  sym_ev 60 _ [(site 32 8001, Dec.loop [0, 2, 4, 7] (X.exit 0) { σ := slots 42 [], h := H.push { } (site 32 4) (AO.cells [vi c.fst, vi c.snd] false) })] _ [] _ (by kernel_rfl) (AllP_cons h1 AllP_nil)
theorem plc_l2 (y : DV) (c : Int × Int) (ret : Bool) (k : Int) (h1 : Ev C0 noO (Task.code 32 false (loopOf Try.prog 32 0) { σ := slots 42 [(0, AV.d y), (2, vb ret), (4, AV.ptr 262148 0 0), (7, vi 0)], h := { objs := [(262148, 1, [AO.cells [vi c.1, vi c.2] false])] } }) (Res.code X.ret { σ := slots 42 [(6, vi k)], h := H.push { } (site 32 4) (AO.cells [vi c.fst, vi c.snd] false) })) :
    Ev C0 noO (Task.call 32 [AV.d y, aggP c, vb ret] { }) (.val (vi k) { objs := [(262148, 1, [AO.cells [vi c.1, vi c.2] false])] }) :=
  sym_ev 60 _ [(site 32 8001, Dec.loop [0, 2, 4, 7] X.ret { σ := slots 42 [(6, vi k)], h := H.push { } (site 32 4) (AO.cells [vi c.fst, vi c.snd] false) })] _ [] _ (by kernel_rfl) (AllP_cons h1 AllP_nil)

end Go.Ev

namespace Go.Ev
open Go Go.RowKit Go.Proofs

theorem inl_ye (full : Bool) (rows : List (List DV)) (i : Int) (c : Int × Int) (i8 : Int) (d : Int × Int) (h1 : ↑(List.length rows) = i8) (h2 : decide (i < i8) = true) (h3 : 0 ≤ i ∧ rows[Int.toNat i]? = some (rowP d)) (h4 : still C0.P (Op.equal 23 (Value.agg #[Value.int IntKind.i64 d.1, Value.int IntKind.i64 d.2]) (Value.agg #[Value.int IntKind.i64 c.1, Value.int IntKind.i64 c.2])) = some true) :
    Ev C0 noO (Task.code 35 false (loopOf Try.prog 35 0) { σ := slots 18 [(0, AV.d (DV.sl 2 full rows)), (3, AV.ptr (site 35 3) 0 0), (5, vi i)], h := H.push { } (site 35 3) (AO.cells [vi c.fst, vi c.snd] false) }) (.code (X.ret) { σ := slots 18 [(4, vb true)], h := { objs := [(286723, 1, [AO.cells [vi c.1, vi c.2] false])] } }) :=
  symM_ev (n := 60) (sc := [(site 35 8, Dec.int i8), (site 35 9, Dec.b true), (site 35 14, Dec.row (rowP d)), (site 35 17, Dec.eqv true)]) (keep := [4]) (sc' := []) (by kernel_rfl) (AllP_cons h1 (AllP_cons h2 (AllP_cons h3 (AllP_cons h4 AllP_nil))))
theorem inl_ydL (full : Bool) (rows : List (List DV)) (i : Int) (c : Int × Int) (i8 : Int) (d : Int × Int) (i11 : Int) (x : X) (s : St) (h1 : ↑(List.length rows) = i8) (h2 : decide (i < i8) = true) (h3 : 0 ≤ i ∧ rows[Int.toNat i]? = some (rowP d)) (h4 : still C0.P (Op.equal 23 (Value.agg #[Value.int IntKind.i64 d.1, Value.int IntKind.i64 d.2]) (Value.agg #[Value.int IntKind.i64 c.1, Value.int IntKind.i64 c.2])) = some false) (h5 : wr64 (i + 1) = i11) (h6 : Ev C0 noO (Task.code 35 false (loopOf Try.prog 35 0) { σ := slots 18 [(0, AV.d (DV.sl 2 full rows)), (3, AV.ptr 286723 0 0), (5, vi i11)], h := { objs := [(286723, 1, [AO.cells [vi c.1, vi c.2] false])] } }) (Res.code x s)) :
    Ev C0 noO (Task.code 35 false (loopOf Try.prog 35 0) { σ := slots 18 [(0, AV.d (DV.sl 2 full rows)), (3, AV.ptr (site 35 3) 0 0), (5, vi i)], h := H.push { } (site 35 3) (AO.cells [vi c.fst, vi c.snd] false) }) (.code (x) s) :=
  sym_ev 60 _ [(site 35 8, Dec.int i8), (site 35 9, Dec.b true), (site 35 14, Dec.row (rowP d)), (site 35 17, Dec.eqv false), (site 35 11, Dec.int i11), (site 35 8001, Dec.loop [0, 3, 5] x s)] _ [] _ (by kernel_rfl) (AllP_cons h1 (AllP_cons h2 (AllP_cons h3 (AllP_cons h4 (AllP_cons h5 (AllP_cons h6 AllP_nil))))))
theorem inl_n (full : Bool) (rows : List (List DV)) (i : Int) (c : Int × Int) (i8 : Int) (h1 : ↑(List.length rows) = i8) (h2 : decide (i < i8) = false) :
    Ev C0 noO (Task.code 35 false (loopOf Try.prog 35 0) { σ := slots 18 [(0, AV.d (DV.sl 2 full rows)), (3, AV.ptr (site 35 3) 0 0), (5, vi i)], h := H.push { } (site 35 3) (AO.cells [vi c.fst, vi c.snd] false) }) (.code (X.exit 0) { σ := slots 18 [], h := { objs := [(286723, 1, [AO.cells [vi c.1, vi c.2] false])] } }) :=
  symM_ev (n := 60) (sc := [(site 35 8, Dec.int i8), (site 35 9, Dec.b false)]) (keep := []) (sc' := []) (by kernel_rfl) (AllP_cons h1 (AllP_cons h2 AllP_nil))
theorem inA_ (c : Int × Int) :
    Ev C0 noO (Task.code 35 false (loopOf Try.prog 35 0) { σ := slots 18 [(0, AV.d (DV.v (Value.slice none 0 0))), (3, AV.ptr (site 35 3) 0 0), (5, vi 0)], h := H.push { } (site 35 3) (AO.cells [vi c.fst, vi c.snd] false) }) (.code (X.exit 0) { σ := slots 18 [], h := { objs := [(286723, 1, [AO.cells [vi c.1, vi c.2] false])] } }) :=
  symM_ev (n := 60) (sc := []) (keep := []) (sc' := []) (by kernel_rfl) AllP_nil
theorem inc_l1 (y : DV) (c : Int × Int) (h1 : Ev C0 noO (Task.code 35 false (loopOf Try.prog 35 0) { σ := slots 18 [(0, AV.d y), (3, AV.ptr 286723 0 0), (5, vi 0)], h := { objs := [(286723, 1, [AO.cells [vi c.1, vi c.2] false])] } }) (Res.code (X.exit 0) { σ := slots 18 [], h := H.push { } (site 35 3) (AO.cells [vi c.fst, vi c.snd] false) })) :
    Ev C0 noO (Task.call 35 [AV.d y, aggP c] { }) (.val (vb false) { objs := [(286723, 1, [AO.cells [vi c.1, vi c.2] false])] }) :=
  sym_ev 60 _ [(site 35 8001, Dec.loop [0, 3, 5] (X.exit 0) { σ := slots 18 [], h := H.push { } (site 35 3) (AO.cells [vi c.fst, vi c.snd] false) })] _ [] _ (by kernel_rfl) (AllP_cons h1 AllP_nil)
theorem inc_l2 (y : DV) (c : Int × Int) (h1 : Ev C0 noO (Task.code 35 false (loopOf Try.prog 35 0) { σ := slots 18 [(0, AV.d y), (3, AV.ptr 286723 0 0), (5, vi 0)], h := { objs := [(286723, 1, [AO.cells [vi c.1, vi c.2] false])] } }) (Res.code X.ret { σ := slots 18 [(4, vb true)], h := H.push { } (site 35 3) (AO.cells [vi c.fst, vi c.snd] false) })) :
    Ev C0 noO (Task.call 35 [AV.d y, aggP c] { }) (.val (vb true) { objs := [(286723, 1, [AO.cells [vi c.1, vi c.2] false])] }) :=
  sym_ev 60 _ [(site 35 8001, Dec.loop [0, 3, 5] X.ret { σ := slots 18 [(4, vb true)], h := H.push { } (site 35 3) (AO.cells [vi c.fst, vi c.snd] false) })] _ [] _ (by kernel_rfl) (AllP_cons h1 AllP_nil)

end Go.Ev

namespace Go.Ev
open Go Go.RowKit Go.Proofs

theorem sm_yeL (f1 : Bool) (f2 : Bool) (r1 : List (List DV)) (r2 : List (List DV)) (i : Int) (i13 : Int) (e : Evt) (u : Evt) (i16 : Int) (x : X) (s : St) (h1 : ↑(List.length r1) = i13) (h2 : decide (i < i13) = true) (h3 : 0 ≤ i ∧ r1[Int.toNat i]? = some (Evt.row e)) (h4 : 0 ≤ i ∧ r2[Int.toNat i]? = some (Evt.row u)) (h5 : still C0.P (Op.equal 51 (Value.agg #[Value.int IntKind.i64 e.1, Value.int IntKind.i64 e.2, Value.bool e.3, Value.int IntKind.i64 e.an.1, Value.int IntKind.i64 e.an.2, Value.int IntKind.i64 e.an.3, Value.int IntKind.i64 e.an.4]) (Value.agg #[Value.int IntKind.i64 u.1, Value.int IntKind.i64 u.2, Value.bool u.3, Value.int IntKind.i64 u.an.1, Value.int IntKind.i64 u.an.2, Value.int IntKind.i64 u.an.3, Value.int IntKind.i64 u.an.4])) = some true) (h6 : wr64 (i + 1) = i16) (h7 : Ev C0 noO (Task.code 13 false (loopOf Try.prog 13 0) { σ := slots 26 [(0, AV.d (DV.sl 7 f1 r1)), (1, AV.d (DV.sl 7 f2 r2)), (5, vi i16)], h := { } }) (Res.code x s)) :
    Ev C0 noO (Task.code 13 false (loopOf Try.prog 13 0) { σ := slots 26 [(0, AV.d (DV.sl 7 f1 r1)), (1, AV.d (DV.sl 7 f2 r2)), (5, vi i)], h := { } }) (.code (x) s) :=
  sym_ev 60 _ [(site 13 13, Dec.int i13), (site 13 14, Dec.b true), (site 13 19, Dec.row (Evt.row e)), (site 13 23, Dec.row (Evt.row u)), (site 13 25, Dec.eqv true), (site 13 16, Dec.int i16), (site 13 8001, Dec.loop [0, 1, 5] x s)] _ [] _ (by kernel_rfl) (AllP_cons h1 (AllP_cons h2 (AllP_cons h3 (AllP_cons h4 (AllP_cons h5 (AllP_cons h6 (AllP_cons h7 AllP_nil)))))))
theorem sm_yd (f1 : Bool) (f2 : Bool) (r1 : List (List DV)) (r2 : List (List DV)) (i : Int) (i13 : Int) (e : Evt) (u : Evt) (h1 : ↑(List.length r1) = i13) (h2 : decide (i < i13) = true) (h3 : 0 ≤ i ∧ r1[Int.toNat i]? = some (Evt.row e)) (h4 : 0 ≤ i ∧ r2[Int.toNat i]? = some (Evt.row u)) (h5 : still C0.P (Op.equal 51 (Value.agg #[Value.int IntKind.i64 e.1, Value.int IntKind.i64 e.2, Value.bool e.3, Value.int IntKind.i64 e.an.1, Value.int IntKind.i64 e.an.2, Value.int IntKind.i64 e.an.3, Value.int IntKind.i64 e.an.4]) (Value.agg #[Value.int IntKind.i64 u.1, Value.int IntKind.i64 u.2, Value.bool u.3, Value.int IntKind.i64 u.an.1, Value.int IntKind.i64 u.an.2, Value.int IntKind.i64 u.an.3, Value.int IntKind.i64 u.an.4])) = some false) :
    Ev C0 noO (Task.code 13 false (loopOf Try.prog 13 0) { σ := slots 26 [(0, AV.d (DV.sl 7 f1 r1)), (1, AV.d (DV.sl 7 f2 r2)), (5, vi i)], h := { } }) (.code (X.ret) { σ := slots 26 [(4, vb false)], h := { } }) :=
  symM_ev (n := 60) (sc := [(site 13 13, Dec.int i13), (site 13 14, Dec.b true), (site 13 19, Dec.row (Evt.row e)), (site 13 23, Dec.row (Evt.row u)), (site 13 25, Dec.eqv false)]) (keep := [4]) (sc' := []) (by kernel_rfl) (AllP_cons h1 (AllP_cons h2 (AllP_cons h3 (AllP_cons h4 (AllP_cons h5 AllP_nil)))))
theorem sm_n (f1 : Bool) (f2 : Bool) (r1 : List (List DV)) (r2 : List (List DV)) (i : Int) (i13 : Int) (h1 : ↑(List.length r1) = i13) (h2 : decide (i < i13) = false) :
    Ev C0 noO (Task.code 13 false (loopOf Try.prog 13 0) { σ := slots 26 [(0, AV.d (DV.sl 7 f1 r1)), (1, AV.d (DV.sl 7 f2 r2)), (5, vi i)], h := { } }) (.code (X.exit 0) { σ := slots 26 [], h := { } }) :=
  symM_ev (n := 60) (sc := [(site 13 13, Dec.int i13), (site 13 14, Dec.b false)]) (keep := []) (sc' := []) (by kernel_rfl) (AllP_cons h1 (AllP_cons h2 AllP_nil))
theorem smN_ (h1 : Ev C0 noO (Task.code 13 false (loopOf Try.prog 13 0) { σ := slots 26 [(0, AV.d (DV.v (Value.slice none 0 0))), (1, AV.d (DV.v (Value.slice none 0 0))), (5, vi 0)], h := { } }) (Res.code (X.exit 0) { σ := slots 26 [], h := { } })) :
    Ev C0 noO (Task.call 13 [AV.d (DV.v (Value.slice none 0 0)), AV.d (DV.v (Value.slice none 0 0))] { }) (.val (vb true) { }) :=
  sym_ev 60 _ [(site 13 8001, Dec.loop [0, 1, 5] (X.exit 0) { σ := slots 26 [], h := { } })] _ [] _ (by kernel_rfl) (AllP_cons h1 AllP_nil)
theorem smA_ (y : DV) :
    Ev C0 noO (Task.code 13 false (loopOf Try.prog 13 0) { σ := slots 26 [(0, AV.d (DV.v (Value.slice none 0 0))), (1, AV.d y), (5, vi 0)], h := { } }) (.code (X.exit 0) { σ := slots 26 [], h := { } }) :=
  symM_ev (n := 60) (sc := []) (keep := []) (sc' := []) (by kernel_rfl) AllP_nil
theorem smB_n (f1 : Bool) (r1 : List (List DV)) (y : DV) (i13 : Int) (h1 : ↑(List.length r1) = i13) (h2 : decide (0 < i13) = false) :
    Ev C0 noO (Task.code 13 false (loopOf Try.prog 13 0) { σ := slots 26 [(0, AV.d (DV.sl 7 f1 r1)), (1, AV.d y), (5, vi 0)], h := { } }) (.code (X.exit 0) { σ := slots 26 [], h := { } }) :=
  symM_ev (n := 60) (sc := [(site 13 13, Dec.int i13), (site 13 14, Dec.b false)]) (keep := []) (sc' := []) (by kernel_rfl) (AllP_cons h1 (AllP_cons h2 AllP_nil))
theorem smc_y (f1 : Bool) (f2 : Bool) (r1 : List (List DV)) (r2 : List (List DV)) (i7 : Int) (i9 : Int) (h1 : ↑(List.length r1) = i7) (h2 : ↑(List.length r2) = i9) (h3 : (i7 != i9) = true) :
    Ev C0 noO (Task.call 13 [AV.d (DV.sl 7 f1 r1), AV.d (DV.sl 7 f2 r2)] { }) (.val (vb false) { }) :=
  sym_ev 60 _ [(site 13 7, Dec.int i7), (site 13 9, Dec.int i9), (site 13 10, Dec.b true)] _ [] _ (by kernel_rfl) (AllP_cons h1 (AllP_cons h2 (AllP_cons h3 AllP_nil)))
theorem smc_nl1 (f1 : Bool) (f2 : Bool) (r1 : List (List DV)) (r2 : List (List DV)) (i7 : Int) (i9 : Int) (h1 : ↑(List.length r1) = i7) (h2 : ↑(List.length r2) = i9) (h3 : (i7 != i9) = false) (h4 : Ev C0 noO (Task.code 13 false (loopOf Try.prog 13 0) { σ := slots 26 [(0, AV.d (DV.sl 7 f1 r1)), (1, AV.d (DV.sl 7 f2 r2)), (5, vi 0)], h := { } }) (Res.code (X.exit 0) { σ := slots 26 [], h := { } })) :
    Ev C0 noO (Task.call 13 [AV.d (DV.sl 7 f1 r1), AV.d (DV.sl 7 f2 r2)] { }) (.val (vb true) { }) :=
  sym_ev 60 _ [(site 13 7, Dec.int i7), (site 13 9, Dec.int i9), (site 13 10, Dec.b false), (site 13 8001, Dec.loop [0, 1, 5] (X.exit 0) { σ := slots 26 [], h := { } })] _ [] _ (by kernel_rfl) (AllP_cons h1 (AllP_cons h2 (AllP_cons h3 (AllP_cons h4 AllP_nil))))
theorem smc_nl2 (f1 : Bool) (f2 : Bool) (r1 : List (List DV)) (r2 : List (List DV)) (i7 : Int) (i9 : Int) (h1 : ↑(List.length r1) = i7) (h2 : ↑(List.length r2) = i9) (h3 : (i7 != i9) = false) (h4 : Ev C0 noO (Task.code 13 false (loopOf Try.prog 13 0) { σ := slots 26 [(0, AV.d (DV.sl 7 f1 r1)), (1, AV.d (DV.sl 7 f2 r2)), (5, vi 0)], h := { } }) (Res.code X.ret { σ := slots 26 [(4, vb false)], h := { } })) :
    Ev C0 noO (Task.call 13 [AV.d (DV.sl 7 f1 r1), AV.d (DV.sl 7 f2 r2)] { }) (.val (vb false) { }) :=
  sym_ev 60 _ [(site 13 7, Dec.int i7), (site 13 9, Dec.int i9), (site 13 10, Dec.b false), (site 13 8001, Dec.loop [0, 1, 5] X.ret { σ := slots 26 [(4, vb false)], h := { } })] _ [] _ (by kernel_rfl) (AllP_cons h1 (AllP_cons h2 (AllP_cons h3 (AllP_cons h4 AllP_nil))))
theorem sml_y (f1 : Bool) (r1 : List (List DV)) (i7 : Int) (h1 : ↑(List.length r1) = i7) (h2 : (i7 != ↑0) = true) :
    Ev C0 noO (Task.call 13 [AV.d (DV.sl 7 f1 r1), AV.d (DV.v (Value.slice none 0 0))] { }) (.val (vb false) { }) :=
  sym_ev 60 _ [(site 13 7, Dec.int i7), (site 13 10, Dec.b true)] _ [] _ (by kernel_rfl) (AllP_cons h1 (AllP_cons h2 AllP_nil))
theorem sml_n (f1 : Bool) (r1 : List (List DV)) (i7 : Int) (h1 : ↑(List.length r1) = i7) (h2 : (i7 != ↑0) = false) (h3 : Ev C0 noO (Task.code 13 false (loopOf Try.prog 13 0) { σ := slots 26 [(0, AV.d (DV.sl 7 f1 r1)), (1, AV.d (DV.v (Value.slice none 0 0))), (5, vi 0)], h := { } }) (Res.code (X.exit 0) { σ := slots 26 [], h := { } })) :
    Ev C0 noO (Task.call 13 [AV.d (DV.sl 7 f1 r1), AV.d (DV.v (Value.slice none 0 0))] { }) (.val (vb true) { }) :=
  sym_ev 60 _ [(site 13 7, Dec.int i7), (site 13 10, Dec.b false), (site 13 8001, Dec.loop [0, 1, 5] (X.exit 0) { σ := slots 26 [], h := { } })] _ [] _ (by kernel_rfl) (AllP_cons h1 (AllP_cons h2 (AllP_cons h3 AllP_nil)))
theorem smr_y (f1 : Bool) (r1 : List (List DV)) (i9 : Int) (h1 : ↑(List.length r1) = i9) (h2 : (↑0 != i9) = true) :
    Ev C0 noO (Task.call 13 [AV.d (DV.v (Value.slice none 0 0)), AV.d (DV.sl 7 f1 r1)] { }) (.val (vb false) { }) :=
  sym_ev 60 _ [(site 13 9, Dec.int i9), (site 13 10, Dec.b true)] _ [] _ (by kernel_rfl) (AllP_cons h1 (AllP_cons h2 AllP_nil))
theorem smr_n (f1 : Bool) (r1 : List (List DV)) (i9 : Int) (h1 : ↑(List.length r1) = i9) (h2 : (↑0 != i9) = false) (h3 : Ev C0 noO (Task.code 13 false (loopOf Try.prog 13 0) { σ := slots 26 [(0, AV.d (DV.v (Value.slice none 0 0))), (1, AV.d (DV.sl 7 f1 r1)), (5, vi 0)], h := { } }) (Res.code (X.exit 0) { σ := slots 26 [], h := { } })) :
    Ev C0 noO (Task.call 13 [AV.d (DV.v (Value.slice none 0 0)), AV.d (DV.sl 7 f1 r1)] { }) (.val (vb true) { }) :=
  sym_ev 60 _ [(site 13 9, Dec.int i9), (site 13 10, Dec.b false), (site 13 8001, Dec.loop [0, 1, 5] (X.exit 0) { σ := slots 26 [], h := { } })] _ [] _ (by kernel_rfl) (AllP_cons h1 (AllP_cons h2 (AllP_cons h3 AllP_nil)))

end Go.Ev

namespace Go.Ev
open Go Go.RowKit Go.Proofs

theorem sp_yeL (f1 : Bool) (f2 : Bool) (r1 : List (List DV)) (r2 : List (List DV)) (i : Int) (i13 : Int) (e : S4) (u : S4) (i16 : Int) (x : X) (s : St) (h1 : ↑(List.length r1) = i13) (h2 : decide (i < i13) = true) (h3 : 0 ≤ i ∧ r1[Int.toNat i]? = some (rowS e)) (h4 : 0 ≤ i ∧ r2[Int.toNat i]? = some (rowS u)) (h5 : still C0.P (Op.equal 44 (Value.agg #[Value.int IntKind.i64 e.1, Value.int IntKind.i64 e.snd.1, Value.int IntKind.i64 e.snd.snd.1, Value.int IntKind.i64 e.snd.snd.2]) (Value.agg #[Value.int IntKind.i64 u.1, Value.int IntKind.i64 u.snd.1, Value.int IntKind.i64 u.snd.snd.1, Value.int IntKind.i64 u.snd.snd.2])) = some true) (h6 : wr64 (i + 1) = i16) (h7 : Ev C0 noO (Task.code 16 false (loopOf Try.prog 16 0) { σ := slots 26 [(0, AV.d (DV.sl 4 f1 r1)), (1, AV.d (DV.sl 4 f2 r2)), (5, vi i16)], h := { } }) (Res.code x s)) :
    Ev C0 noO (Task.code 16 false (loopOf Try.prog 16 0) { σ := slots 26 [(0, AV.d (DV.sl 4 f1 r1)), (1, AV.d (DV.sl 4 f2 r2)), (5, vi i)], h := { } }) (.code (x) s) :=
  sym_ev 60 _ [(site 16 13, Dec.int i13), (site 16 14, Dec.b true), (site 16 19, Dec.row (rowS e)), (site 16 23, Dec.row (rowS u)), (site 16 25, Dec.eqv true), (site 16 16, Dec.int i16), (site 16 8001, Dec.loop [0, 1, 5] x s)] _ [] _ (by kernel_rfl) (AllP_cons h1 (AllP_cons h2 (AllP_cons h3 (AllP_cons h4 (AllP_cons h5 (AllP_cons h6 (AllP_cons h7 AllP_nil)))))))
theorem sp_yd (f1 : Bool) (f2 : Bool) (r1 : List (List DV)) (r2 : List (List DV)) (i : Int) (i13 : Int) (e : S4) (u : S4) (h1 : ↑(List.length r1) = i13) (h2 : decide (i < i13) = true) (h3 : 0 ≤ i ∧ r1[Int.toNat i]? = some (rowS e)) (h4 : 0 ≤ i ∧ r2[Int.toNat i]? = some (rowS u)) (h5 : still C0.P (Op.equal 44 (Value.agg #[Value.int IntKind.i64 e.1, Value.int IntKind.i64 e.snd.1, Value.int IntKind.i64 e.snd.snd.1, Value.int IntKind.i64 e.snd.snd.2]) (Value.agg #[Value.int IntKind.i64 u.1, Value.int IntKind.i64 u.snd.1, Value.int IntKind.i64 u.snd.snd.1, Value.int IntKind.i64 u.snd.snd.2])) = some false) :
    Ev C0 noO (Task.code 16 false (loopOf Try.prog 16 0) { σ := slots 26 [(0, AV.d (DV.sl 4 f1 r1)), (1, AV.d (DV.sl 4 f2 r2)), (5, vi i)], h := { } }) (.code (X.ret) { σ := slots 26 [(4, vb false)], h := { } }) :=
  symM_ev (n := 60) (sc := [(site 16 13, Dec.int i13), (site 16 14, Dec.b true), (site 16 19, Dec.row (rowS e)), (site 16 23, Dec.row (rowS u)), (site 16 25, Dec.eqv false)]) (keep := [4]) (sc' := []) (by kernel_rfl) (AllP_cons h1 (AllP_cons h2 (AllP_cons h3 (AllP_cons h4 (AllP_cons h5 AllP_nil)))))
theorem sp_n (f1 : Bool) (f2 : Bool) (r1 : List (List DV)) (r2 : List (List DV)) (i : Int) (i13 : Int) (h1 : ↑(List.length r1) = i13) (h2 : decide (i < i13) = false) :
    Ev C0 noO (Task.code 16 false (loopOf Try.prog 16 0) { σ := slots 26 [(0, AV.d (DV.sl 4 f1 r1)), (1, AV.d (DV.sl 4 f2 r2)), (5, vi i)], h := { } }) (.code (X.exit 0) { σ := slots 26 [], h := { } }) :=
  symM_ev (n := 60) (sc := [(site 16 13, Dec.int i13), (site 16 14, Dec.b false)]) (keep := []) (sc' := []) (by kernel_rfl) (AllP_cons h1 (AllP_cons h2 AllP_nil))
theorem spN_ (h1 : Ev C0 noO (Task.code 16 false (loopOf Try.prog 16 0) { σ := slots 26 [(0, AV.d (DV.v (Value.slice none 0 0))), (1, AV.d (DV.v (Value.slice none 0 0))), (5, vi 0)], h := { } }) (Res.code (X.exit 0) { σ := slots 26 [], h := { } })) :
    Ev C0 noO (Task.call 16 [AV.d (DV.v (Value.slice none 0 0)), AV.d (DV.v (Value.slice none 0 0))] { }) (.val (vb true) { }) :=
  sym_ev 60 _ [(site 16 8001, Dec.loop [0, 1, 5] (X.exit 0) { σ := slots 26 [], h := { } })] _ [] _ (by kernel_rfl) (AllP_cons h1 AllP_nil)
theorem spA_ (y : DV) :
    Ev C0 noO (Task.code 16 false (loopOf Try.prog 16 0) { σ := slots 26 [(0, AV.d (DV.v (Value.slice none 0 0))), (1, AV.d y), (5, vi 0)], h := { } }) (.code (X.exit 0) { σ := slots 26 [], h := { } }) :=
  symM_ev (n := 60) (sc := []) (keep := []) (sc' := []) (by kernel_rfl) AllP_nil
theorem spB_n (f1 : Bool) (r1 : List (List DV)) (y : DV) (i13 : Int) (h1 : ↑(List.length r1) = i13) (h2 : decide (0 < i13) = false) :
    Ev C0 noO (Task.code 16 false (loopOf Try.prog 16 0) { σ := slots 26 [(0, AV.d (DV.sl 4 f1 r1)), (1, AV.d y), (5, vi 0)], h := { } }) (.code (X.exit 0) { σ := slots 26 [], h := { } }) :=
  symM_ev (n := 60) (sc := [(site 16 13, Dec.int i13), (site 16 14, Dec.b false)]) (keep := []) (sc' := []) (by kernel_rfl) (AllP_cons h1 (AllP_cons h2 AllP_nil))
theorem spc_y (f1 : Bool) (f2 : Bool) (r1 : List (List DV)) (r2 : List (List DV)) (i7 : Int) (i9 : Int) (h1 : ↑(List.length r1) = i7) (h2 : ↑(List.length r2) = i9) (h3 : (i7 != i9) = true) :
    Ev C0 noO (Task.call 16 [AV.d (DV.sl 4 f1 r1), AV.d (DV.sl 4 f2 r2)] { }) (.val (vb false) { }) :=
  sym_ev 60 _ [(site 16 7, Dec.int i7), (site 16 9, Dec.int i9), (site 16 10, Dec.b true)] _ [] _ (by kernel_rfl) (AllP_cons h1 (AllP_cons h2 (AllP_cons h3 AllP_nil)))
theorem spc_nl1 (f1 : Bool) (f2 : Bool) (r1 : List (List DV)) (r2 : List (List DV)) (i7 : Int) (i9 : Int) (h1 : ↑(List.length r1) = i7) (h2 : ↑(List.length r2) = i9) (h3 : (i7 != i9) = false) (h4 : Ev C0 noO (Task.code 16 false (loopOf Try.prog 16 0) { σ := slots 26 [(0, AV.d (DV.sl 4 f1 r1)), (1, AV.d (DV.sl 4 f2 r2)), (5, vi 0)], h := { } }) (Res.code (X.exit 0) { σ := slots 26 [], h := { } })) :
    Ev C0 noO (Task.call 16 [AV.d (DV.sl 4 f1 r1), AV.d (DV.sl 4 f2 r2)] { }) (.val (vb true) { }) :=
  sym_ev 60 _ [(site 16 7, Dec.int i7), (site 16 9, Dec.int i9), (site 16 10, Dec.b false), (site 16 8001, Dec.loop [0, 1, 5] (X.exit 0) { σ := slots 26 [], h := { } })] _ [] _ (by kernel_rfl) (AllP_cons h1 (AllP_cons h2 (AllP_cons h3 (AllP_cons h4 AllP_nil))))
theorem spc_nl2 (f1 : Bool) (f2 : Bool) (r1 : List (List DV)) (r2 : List (List DV)) (i7 : Int) (i9 : Int) (h1 : ↑(List.length r1) = i7) (h2 : ↑(List.length r2) = i9) (h3 : (i7 != i9) = false) (h4 : Ev C0 noO (Task.code 16 false (loopOf Try.prog 16 0) { σ := slots 26 [(0, AV.d (DV.sl 4 f1 r1)), (1, AV.d (DV.sl 4 f2 r2)), (5, vi 0)], h := { } }) (Res.code X.ret { σ := slots 26 [(4, vb false)], h := { } })) :
    Ev C0 noO (Task.call 16 [AV.d (DV.sl 4 f1 r1), AV.d (DV.sl 4 f2 r2)] { }) (.val (vb false) { }) :=
  sym_ev 60 _ [(site 16 7, Dec.int i7), (site 16 9, Dec.int i9), (site 16 10, Dec.b false), (site 16 8001, Dec.loop [0, 1, 5] X.ret { σ := slots 26 [(4, vb false)], h := { } })] _ [] _ (by kernel_rfl) (AllP_cons h1 (AllP_cons h2 (AllP_cons h3 (AllP_cons h4 AllP_nil))))
theorem spl_y (f1 : Bool) (r1 : List (List DV)) (i7 : Int) (h1 : ↑(List.length r1) = i7) (h2 : (i7 != ↑0) = true) :
    Ev C0 noO (Task.call 16 [AV.d (DV.sl 4 f1 r1), AV.d (DV.v (Value.slice none 0 0))] { }) (.val (vb false) { }) :=
  sym_ev 60 _ [(site 16 7, Dec.int i7), (site 16 10, Dec.b true)] _ [] _ (by kernel_rfl) (AllP_cons h1 (AllP_cons h2 AllP_nil))
theorem spl_n (f1 : Bool) (r1 : List (List DV)) (i7 : Int) (h1 : ↑(List.length r1) = i7) (h2 : (i7 != ↑0) = false) (h3 : Ev C0 noO (Task.code 16 false (loopOf Try.prog 16 0) { σ := slots 26 [(0, AV.d (DV.sl 4 f1 r1)), (1, AV.d (DV.v (Value.slice none 0 0))), (5, vi 0)], h := { } }) (Res.code (X.exit 0) { σ := slots 26 [], h := { } })) :
    Ev C0 noO (Task.call 16 [AV.d (DV.sl 4 f1 r1), AV.d (DV.v (Value.slice none 0 0))] { }) (.val (vb true) { }) :=
  sym_ev 60 _ [(site 16 7, Dec.int i7), (site 16 10, Dec.b false), (site 16 8001, Dec.loop [0, 1, 5] (X.exit 0) { σ := slots 26 [], h := { } })] _ [] _ (by kernel_rfl) (AllP_cons h1 (AllP_cons h2 (AllP_cons h3 AllP_nil)))
theorem spr_y (f1 : Bool) (r1 : List (List DV)) (i9 : Int) (h1 : ↑(List.length r1) = i9) (h2 : (↑0 != i9) = true) :
    Ev C0 noO (Task.call 16 [AV.d (DV.v (Value.slice none 0 0)), AV.d (DV.sl 4 f1 r1)] { }) (.val (vb false) { }) :=
  sym_ev 60 _ [(site 16 9, Dec.int i9), (site 16 10, Dec.b true)] _ [] _ (by kernel_rfl) (AllP_cons h1 (AllP_cons h2 AllP_nil))
theorem spr_n (f1 : Bool) (r1 : List (List DV)) (i9 : Int) (h1 : ↑(List.length r1) = i9) (h2 : (↑0 != i9) = false) (h3 : Ev C0 noO (Task.code 16 false (loopOf Try.prog 16 0) { σ := slots 26 [(0, AV.d (DV.v (Value.slice none 0 0))), (1, AV.d (DV.sl 4 f1 r1)), (5, vi 0)], h := { } }) (Res.code (X.exit 0) { σ := slots 26 [], h := { } })) :
    Ev C0 noO (Task.call 16 [AV.d (DV.v (Value.slice none 0 0)), AV.d (DV.sl 4 f1 r1)] { }) (.val (vb true) { }) :=
  sym_ev 60 _ [(site 16 9, Dec.int i9), (site 16 10, Dec.b false), (site 16 8001, Dec.loop [0, 1, 5] (X.exit 0) { σ := slots 26 [], h := { } })] _ [] _ (by kernel_rfl) (AllP_cons h1 (AllP_cons h2 (AllP_cons h3 AllP_nil)))

end Go.Ev

namespace Go.Ev
open Go Go.RowKit Go.Proofs

/-! ### place -/
def placeF (c : Int × Int) (ret : Bool) : Nat → List Evt → Option Nat
  | _, [] => none
  | i, e :: r => if e.th = c.1 ∧ e.ca = c.2 ∧ e.re = ret then some i else placeF c ret (i + 1) r
def placeI (c : Int × Int) (ret : Bool) (l : List Evt) : Int := match placeF c ret 0 l with
  | some i => i
  | none => -1
def plH (c : Int × Int) : H := ({} : H).push (site 32 4) (.cells [vi c.1, vi c.2] false)
def plHd (y : DV) (c : Int × Int) (ret : Bool) (i : Int) : St := { σ := slots 42 [(0, .d y), (2, vb ret), (4, .ptr (site 32 4) 0 0), (7, vi i)], h := plH c }
def plOut (c : Int × Int) : Option Nat → X × St
  | none => (.exit 0, { σ := slots 42 [], h := plH c })
  | some k => (.ret, { σ := slots 42 [(6, vi (k : Int))], h := plH c })
theorem pl_loop (full : Bool) (c : Int × Int) (ret : Bool) (all : List Evt) (hb : all.length < 2 ^ 40) : ∀ (rest pre : List Evt), pre ++ rest = all →
    Ev C0 noO (.code 32 false (loopOf Try.prog 32 0) (plHd (.sl 7 full (evRows all)) c ret (pre.length : Nat))) (.code (plOut c (placeF c ret pre.length rest)).1 (plOut c (placeF c ret pre.length rest)).2)
  | [], pre, h => pl_n _ _ _ c ret (all.length : Nat) (by simp [evRows]) (dge (by subst h; simp))
  | e :: rest, pre, h => by
    have hlt := pre_lt h
    have hrow := row_at (g := Evt.row) h
    have ih := pl_loop full c ret all hb rest (pre ++ [e]) (pre_snoc h)
    simp only [len_snoc] at ih
    have hl : (((evRows all).length : Nat) : Int) = (all.length : Nat) := by simp [evRows]
    unfold placeF
    by_cases h1 : e.th = c.1
    · by_cases h2 : e.ca = c.2
      · by_cases h3 : e.re = ret
        · rw [if_pos ⟨h1, h2, h3⟩]
          cases ret with
          | true => exact pl_yyyyy _ _ _ c _ _ e e e e.re hl (dlt hlt) hrow (by simpa using h1) hrow (by simpa using h2) hrow rfl rfl (by simpa using h3)
          | false => exact pl_yyyny _ _ _ c _ _ e e e e.re hl (dlt hlt) hrow (by simpa using h1) hrow (by simpa using h2) hrow rfl rfl (by simpa using h3)
        · rw [if_neg (fun h => h3 h.2.2)]
          cases ret with
          | true => exact pl_yyyynL _ _ _ c _ _ e e e e.re _ _ _ hl (dlt hlt) hrow (by simpa using h1) hrow (by simpa using h2) hrow rfl rfl (by simpa using h3) (wrap_succ (by omega)) ih
          | false => exact pl_yyynnL _ _ _ c _ _ e e e e.re _ _ _ hl (dlt hlt) hrow (by simpa using h1) hrow (by simpa using h2) hrow rfl rfl (by simpa using h3) (wrap_succ (by omega)) ih
      · rw [if_neg (fun h => h2 h.2.1)]
        exact pl_yynL _ _ _ c ret _ e e _ _ _ hl (dlt hlt) hrow (by simpa using h1) hrow (by simpa using h2) (wrap_succ (by omega)) ih
    · rw [if_neg (fun h => h1 h.1)]
      exact pl_ynL _ _ _ c ret _ e _ _ _ hl (dlt hlt) hrow (by simpa using h1) (wrap_succ (by omega)) ih

def placeSpec : Spec
  | [p, q, .one (.v (.bool ret))] => match evtsOf p, pairOf q with
    | some l, some c => if l.length < 2 ^ 40 then some [pint (placeI c ret l)] else none
    | _, _ => none
  | _ => none
theorem place_sat : Sat C0 32 placeSpec := by
  refine sat_of_ev (O := noO) hP0 (fun _ _ h => h.elim) hm0 fun ps rs hs => ?_
  unfold placeSpec at hs
  split at hs
  · rename_i p q ret
    split at hs
    · rename_i l c hl hc
      split at hs
      · rename_i hb
        simp only [Option.some.injEq] at hs
        subst hs
        rw [pairOf_eq hc]
        rcases evtsOf_cases hl with ⟨rfl, rfl⟩ | ⟨full, rfl⟩
        · exact ⟨_, _, _, plc_l1 (.v (.slice none 0 0)) c ret 0 (plA_ c ret), rfl⟩
        · have h := pl_loop full c ret l hb l [] rfl
          unfold placeI
          simp only [List.length_nil] at h
          cases e : placeF c ret 0 l with
          | none => rw [e] at h; exact ⟨_, _, _, plc_l1 _ c ret 0 h, rfl⟩
          | some k => rw [e] at h; exact ⟨_, _, _, plc_l2 _ c ret (k : Int) h, rfl⟩
      · cases hs
    · cases hs
  · cases hs

/-! ### in -/
def inH (c : Int × Int) : H := ({} : H).push (site 35 3) (.cells [vi c.1, vi c.2] false)
def inHd (y : DV) (c : Int × Int) (i : Int) : St := { σ := slots 18 [(0, .d y), (3, .ptr (site 35 3) 0 0), (5, vi i)], h := inH c }
def inOut (c : Int × Int) : Bool → X × St
  | false => (.exit 0, { σ := slots 18 [], h := inH c })
  | true => (.ret, { σ := slots 18 [(4, vb true)], h := inH c })
theorem in_loop (full : Bool) (c : Int × Int) (all : List (Int × Int)) (hb : all.length < 2 ^ 40) : ∀ (rest pre : List (Int × Int)), pre ++ rest = all →
    Ev C0 noO (.code 35 false (loopOf Try.prog 35 0) (inHd (.sl 2 full (rowsP all)) c (pre.length : Nat))) (.code (inOut c (rest.contains c)).1 (inOut c (rest.contains c)).2)
  | [], pre, h => inl_n _ _ _ c (all.length : Nat) (by simp [rowsP]) (dge (by subst h; simp))
  | e :: rest, pre, h => by
    have hlt := pre_lt h
    have hrow := row_at (g := rowP) h
    have ih := in_loop full c all hb rest (pre ++ [e]) (pre_snoc h)
    simp only [len_snoc] at ih
    have hl : (((rowsP all).length : Nat) : Int) = (all.length : Nat) := by simp [rowsP]
    have he := eq2' e c
    by_cases h1 : e = c
    · have : (e :: rest).contains c = true := by simp [h1]
      rw [this]
      exact inl_ye _ _ _ c _ e hl (dlt hlt) hrow (he.trans (by rw [decide_eq_true h1]))
    · have : (e :: rest).contains c = rest.contains c := by
        have : (c == e) = false := beq_eq_false_iff_ne.2 (fun h => h1 h.symm)
        simp only [List.contains_cons, this, Bool.false_or]
      rw [this]
      exact inl_ydL _ _ _ c _ e _ _ _ hl (dlt hlt) hrow (he.trans (by rw [decide_eq_false h1])) (wrap_succ (by omega)) ih

def inSpec : Spec
  | [p, q] => match callsOf p, pairOf q with
    | some l, some c => if l.length < 2 ^ 40 then some [pbool (l.contains c)] else none
    | _, _ => none
  | _ => none
theorem in_sat : Sat C0 35 inSpec := by
  refine sat_of_ev (O := noO) hP0 (fun _ _ h => h.elim) hm0 fun ps rs hs => ?_
  unfold inSpec at hs
  split at hs
  · rename_i p q
    split at hs
    · rename_i l c hl hc
      split at hs
      · rename_i hb
        simp only [Option.some.injEq] at hs
        subst hs
        rw [pairOf_eq hc]
        rcases callsOf_cases hl with ⟨rfl, rfl⟩ | ⟨full, rfl⟩
        · exact ⟨_, _, _, inc_l1 (.v (.slice none 0 0)) c (inA_ c), rfl⟩
        · have h := in_loop full c l hb l [] rfl
          simp only [List.length_nil] at h
          cases e : l.contains c with
          | false => rw [e] at h; exact ⟨_, _, _, inc_l1 _ c h, rfl⟩
          | true => rw [e] at h; exact ⟨_, _, _, inc_l2 _ c h, rfl⟩
      · cases hs
    · cases hs
  · cases hs

/-! ### Same -/
def smHd (y z : DV) (i : Int) : St := { σ := slots 26 [(0, .d y), (1, .d z), (5, vi i)], h := {} }
def smOut : Bool → X × St
  | true => (.exit 0, { σ := slots 26 [], h := {} })
  | false => (.ret, { σ := slots 26 [(4, vb false)], h := {} })
theorem sm_loop (f1 f2 : Bool) (a b : List Evt) (hb : a.length < 2 ^ 40) : ∀ (r1 r2 p1 p2 : List Evt), p1 ++ r1 = a → p2 ++ r2 = b → r1.length = r2.length → p1.length = p2.length →
    Ev C0 noO (.code 13 false (loopOf Try.prog 13 0) (smHd (.sl 7 f1 (evRows a)) (.sl 7 f2 (evRows b)) (p1.length : Nat))) (.code (smOut (decide (r1 = r2))).1 (smOut (decide (r1 = r2))).2)
  | [], [], p1, p2, h1, h2, _, _ => sm_n _ _ _ _ _ (a.length : Nat) (by simp [evRows]) (dge (by subst h1; simp))
  | [], _ :: _, _, _, _, _, h, _ => by simp at h
  | _ :: _, [], _, _, _, _, h, _ => by simp at h
  | e :: r1, u :: r2, p1, p2, h1, h2, hr, hp => by
    have hlt := pre_lt h1
    have hrow := row_at (g := Evt.row) h1
    have hrow2 := row_at (g := Evt.row) h2
    rw [← hp] at hrow2
    have ih := sm_loop f1 f2 a b hb r1 r2 (p1 ++ [e]) (p2 ++ [u]) (pre_snoc h1) (pre_snoc h2) (by simpa using hr) (by simpa using hp)
    simp only [len_snoc] at ih
    have hl : (((evRows a).length : Nat) : Int) = (a.length : Nat) := by simp [evRows]
    by_cases he : e = u
    · have : decide (e :: r1 = u :: r2) = decide (r1 = r2) := by simp [he]
      rw [this]
      exact sm_yeL _ _ _ _ _ _ e u _ _ _ hl (dlt hlt) hrow hrow2 ((eq51 e u).trans (by rw [decide_eq_true he])) (wrap_succ (by omega)) ih
    · have : decide (e :: r1 = u :: r2) = false := by simp [he]
      rw [this]
      exact sm_yd _ _ _ _ _ _ e u hl (dlt hlt) hrow hrow2 ((eq51 e u).trans (by rw [decide_eq_false he]))
def sameSpec : Spec
  | [p, q] => match evtsOf p, evtsOf q with
    | some a, some b => if a.length < 2 ^ 40 then some [pbool (decide (a = b))] else none
    | _, _ => none
  | _ => none
theorem same_sat : Sat C0 13 sameSpec := by
  refine sat_of_ev (O := noO) hP0 (fun _ _ h => h.elim) hm0 fun ps rs hs => ?_
  unfold sameSpec at hs
  split at hs
  · rename_i p q
    split at hs
    · rename_i a b ha hb
      split at hs
      · rename_i hlen
        simp only [Option.some.injEq] at hs
        subst hs
        rcases evtsOf_cases ha with ⟨rfl, rfl⟩ | ⟨f1, rfl⟩
        · rcases evtsOf_cases hb with ⟨rfl, rfl⟩ | ⟨f2, rfl⟩
          · exact ⟨_, _, _, smN_ (smA_ _), rfl⟩
          · cases b with
            | nil => exact ⟨_, _, _, smr_n f2 _ 0 (by simp [evRows]) (by decide) (smA_ _), rfl⟩
            | cons u b =>
              have hne : decide ([] = u :: b) = false := by simp
              rw [hne]
              exact ⟨_, _, _, smr_y f2 _ ((u :: b).length : Nat) (by simp [evRows]) (by simp; omega), rfl⟩
        · rcases evtsOf_cases hb with ⟨rfl, rfl⟩ | ⟨f2, rfl⟩
          · cases a with
            | nil => exact ⟨_, _, _, sml_n f1 _ 0 (by simp [evRows]) (by decide) (smB_n f1 _ _ 0 (by simp [evRows]) (by decide)), rfl⟩
            | cons u a =>
              have hne : decide (u :: a = []) = false := by simp
              rw [hne]
              exact ⟨_, _, _, sml_y f1 _ ((u :: a).length : Nat) (by simp [evRows]) (by simp; omega), rfl⟩
          · by_cases hl : a.length = b.length
            · have h := sm_loop f1 f2 a b hlen a b [] [] rfl rfl hl rfl
              simp only [List.length_nil] at h
              cases e : decide (a = b) with
              | true => rw [e] at h; exact ⟨_, _, _, smc_nl1 f1 f2 _ _ (a.length : Nat) (b.length : Nat) (by simp [evRows]) (by simp [evRows]) (by simp [hl]) h, rfl⟩
              | false => rw [e] at h; exact ⟨_, _, _, smc_nl2 f1 f2 _ _ (a.length : Nat) (b.length : Nat) (by simp [evRows]) (by simp [evRows]) (by simp [hl]) h, rfl⟩
            · have hne : decide (a = b) = false := decide_eq_false (fun h => hl (by rw [h]))
              rw [hne]
              exact ⟨_, _, _, smc_y f1 f2 _ _ (a.length : Nat) (b.length : Nat) (by simp [evRows]) (by simp [evRows]) (by simp; omega), rfl⟩
      · cases hs
    · cases hs
  · cases hs

/-! ### spans -/
def spHd (y z : DV) (i : Int) : St := { σ := slots 26 [(0, .d y), (1, .d z), (5, vi i)], h := {} }
def spOut : Bool → X × St
  | true => (.exit 0, { σ := slots 26 [], h := {} })
  | false => (.ret, { σ := slots 26 [(4, vb false)], h := {} })
theorem sp_loop (f1 f2 : Bool) (a b : List S4) (hb : a.length < 2 ^ 40) : ∀ (r1 r2 p1 p2 : List S4), p1 ++ r1 = a → p2 ++ r2 = b → r1.length = r2.length → p1.length = p2.length →
    Ev C0 noO (.code 16 false (loopOf Try.prog 16 0) (spHd (.sl 4 f1 (rowsS a)) (.sl 4 f2 (rowsS b)) (p1.length : Nat))) (.code (spOut (decide (r1 = r2))).1 (spOut (decide (r1 = r2))).2)
  | [], [], p1, p2, h1, h2, _, _ => sp_n _ _ _ _ _ (a.length : Nat) (by simp [rowsS]) (dge (by subst h1; simp))
  | [], _ :: _, _, _, _, _, h, _ => by simp at h
  | _ :: _, [], _, _, _, _, h, _ => by simp at h
  | e :: r1, u :: r2, p1, p2, h1, h2, hr, hp => by
    have hlt := pre_lt h1
    have hrow := row_at (g := rowS) h1
    have hrow2 := row_at (g := rowS) h2
    rw [← hp] at hrow2
    have ih := sp_loop f1 f2 a b hb r1 r2 (p1 ++ [e]) (p2 ++ [u]) (pre_snoc h1) (pre_snoc h2) (by simpa using hr) (by simpa using hp)
    simp only [len_snoc] at ih
    have hl : (((rowsS a).length : Nat) : Int) = (a.length : Nat) := by simp [rowsS]
    by_cases he : e = u
    · have : decide (e :: r1 = u :: r2) = decide (r1 = r2) := by simp [he]
      rw [this]
      exact sp_yeL _ _ _ _ _ _ e u _ _ _ hl (dlt hlt) hrow hrow2 ((eq44 e u).trans (by rw [decide_eq_true he])) (wrap_succ (by omega)) ih
    · have : decide (e :: r1 = u :: r2) = false := by simp [he]
      rw [this]
      exact sp_yd _ _ _ _ _ _ e u hl (dlt hlt) hrow hrow2 ((eq44 e u).trans (by rw [decide_eq_false he]))
def spansSpec : Spec
  | [p, q] => match spansOf p, spansOf q with
    | some a, some b => if a.length < 2 ^ 40 then some [pbool (decide (a = b))] else none
    | _, _ => none
  | _ => none
theorem spans_sat : Sat C0 16 spansSpec := by
  refine sat_of_ev (O := noO) hP0 (fun _ _ h => h.elim) hm0 fun ps rs hs => ?_
  unfold spansSpec at hs
  split at hs
  · rename_i p q
    split at hs
    · rename_i a b ha hb
      split at hs
      · rename_i hlen
        simp only [Option.some.injEq] at hs
        subst hs
        rcases spansOf_cases ha with ⟨rfl, rfl⟩ | ⟨f1, rfl⟩
        · rcases spansOf_cases hb with ⟨rfl, rfl⟩ | ⟨f2, rfl⟩
          · exact ⟨_, _, _, spN_ (spA_ _), rfl⟩
          · cases b with
            | nil => exact ⟨_, _, _, spr_n f2 _ 0 (by simp [rowsS]) (by decide) (spA_ _), rfl⟩
            | cons u b =>
              have hne : decide ([] = u :: b) = false := by simp
              rw [hne]
              exact ⟨_, _, _, spr_y f2 _ ((u :: b).length : Nat) (by simp [rowsS]) (by simp; omega), rfl⟩
        · rcases spansOf_cases hb with ⟨rfl, rfl⟩ | ⟨f2, rfl⟩
          · cases a with
            | nil => exact ⟨_, _, _, spl_n f1 _ 0 (by simp [rowsS]) (by decide) (spB_n f1 _ _ 0 (by simp [rowsS]) (by decide)), rfl⟩
            | cons u a =>
              have hne : decide (u :: a = []) = false := by simp
              rw [hne]
              exact ⟨_, _, _, spl_y f1 _ ((u :: a).length : Nat) (by simp [rowsS]) (by simp; omega), rfl⟩
          · by_cases hl : a.length = b.length
            · have h := sp_loop f1 f2 a b hlen a b [] [] rfl rfl hl rfl
              simp only [List.length_nil] at h
              cases e : decide (a = b) with
              | true => rw [e] at h; exact ⟨_, _, _, spc_nl1 f1 f2 _ _ (a.length : Nat) (b.length : Nat) (by simp [rowsS]) (by simp [rowsS]) (by simp [hl]) h, rfl⟩
              | false => rw [e] at h; exact ⟨_, _, _, spc_nl2 f1 f2 _ _ (a.length : Nat) (b.length : Nat) (by simp [rowsS]) (by simp [rowsS]) (by simp [hl]) h, rfl⟩
            · have hne : decide (a = b) = false := decide_eq_false (fun h => hl (by rw [h]))
              rw [hne]
              exact ⟨_, _, _, spc_y f1 f2 _ _ (a.length : Nat) (b.length : Nat) (by simp [rowsS]) (by simp [rowsS]) (by simp; omega), rfl⟩
      · cases hs
    · cases hs
  · cases hs

end Go.Ev

namespace Go.Ev
open Go Go.RowKit Go.Proofs

theorem rr_yy (full : Bool) (rows : List (List DV)) (i : Int) (fr : List Int) (i13 : Int) (e : Evt) (h1 : ↑(List.length rows) = i13) (h2 : decide (i < i13) = true) (h3 : 0 ≤ i ∧ rows[Int.toNat i]? = some (Evt.row e)) (h4 : decide (e.th < 0) = true) (h5 : hFree [98309] { objs := [(98309, 1, [AO.cells [vi e.1, vi e.2, vb e.3, vi e.an.1, vi e.an.2, vi e.an.3, vi e.an.4] false]), (98314, 1, [AO.cells (farC fr) false])] } = true) :
    Ev C0 noO (Task.code 12 false (loopOf Try.prog 12 0) { σ := slots 64 [(0, AV.d (DV.sl 7 full rows)), (3, AV.hs (site 12 10) 0 0 64 1), (4, vi i)], h := farH fr }) (.code (X.ret) { σ := slots 64 [(2, vb false)], h := { objs := [(98314, 1, [AO.cells (farC fr) false])] } }) :=
  symD_ev (n := 60) (sc := [(site 12 13, Dec.int i13), (site 12 14, Dec.b true), (site 12 19, Dec.row (Evt.row e)), (site 12 23, Dec.b true)]) (keep := [2]) (L := [98309]) (sc' := []) (by kernel_rfl) (AllP_cons h1 (AllP_cons h2 (AllP_cons h3 (AllP_cons h4 (AllP_cons (rfl : true = true) (AllP_cons h5 (AllP_cons (rfl : true = true) AllP_nil)))))))
theorem rr_yny (full : Bool) (rows : List (List DV)) (i : Int) (fr : List Int) (i13 : Int) (e : Evt) (h1 : ↑(List.length rows) = i13) (h2 : decide (i < i13) = true) (h3 : 0 ≤ i ∧ rows[Int.toNat i]? = some (Evt.row e)) (h4 : decide (e.th < 0) = false) (h5 : decide (e.th > 63) = true) (h6 : hFree [98309] { objs := [(98309, 1, [AO.cells [vi e.1, vi e.2, vb e.3, vi e.an.1, vi e.an.2, vi e.an.3, vi e.an.4] false]), (98314, 1, [AO.cells (farC fr) false])] } = true) :
    Ev C0 noO (Task.code 12 false (loopOf Try.prog 12 0) { σ := slots 64 [(0, AV.d (DV.sl 7 full rows)), (3, AV.hs (site 12 10) 0 0 64 1), (4, vi i)], h := farH fr }) (.code (X.ret) { σ := slots 64 [(2, vb false)], h := { objs := [(98314, 1, [AO.cells (farC fr) false])] } }) :=
  symD_ev (n := 60) (sc := [(site 12 13, Dec.int i13), (site 12 14, Dec.b true), (site 12 19, Dec.row (Evt.row e)), (site 12 23, Dec.b false), (site 12 27, Dec.b true)]) (keep := [2]) (L := [98309]) (sc' := []) (by kernel_rfl) (AllP_cons h1 (AllP_cons h2 (AllP_cons h3 (AllP_cons h4 (AllP_cons h5 (AllP_cons (rfl : true = true) (AllP_cons h6 (AllP_cons (rfl : true = true) AllP_nil))))))))
theorem rr_ynny (full : Bool) (rows : List (List DV)) (i : Int) (fr : List Int) (i13 : Int) (e : Evt) (k : Nat) (a : Int) (i37 : Int) (h1 : ↑(List.length rows) = i13) (h2 : decide (i < i13) = true) (h3 : 0 ≤ i ∧ rows[Int.toNat i]? = some (Evt.row e)) (h4 : decide (e.th < 0) = false) (h5 : decide (e.th > 63) = false) (h6 : e.th = ↑k ∧ k < 64) (h7 : asCells C0 3 (farC fr) (0 + k * 1) = some (vi a)) (h8 : wr64 (Int.tdiv a 2) = i37) (h9 : (e.ca != i37) = true) (h10 : hFree [98309] { objs := [(98309, 1, [AO.cells [vi e.1, vi e.2, vb e.3, vi e.an.1, vi e.an.2, vi e.an.3, vi e.an.4] false]), (98314, 1, [AO.cells (farC fr) false])] } = true) :
    Ev C0 noO (Task.code 12 false (loopOf Try.prog 12 0) { σ := slots 64 [(0, AV.d (DV.sl 7 full rows)), (3, AV.hs (site 12 10) 0 0 64 1), (4, vi i)], h := farH fr }) (.code (X.ret) { σ := slots 64 [(2, vb false)], h := { objs := [(98314, 1, [AO.cells (farC fr) false])] } }) :=
  symD_ev (n := 60) (sc := [(site 12 13, Dec.int i13), (site 12 14, Dec.b true), (site 12 19, Dec.row (Evt.row e)), (site 12 23, Dec.b false), (site 12 27, Dec.b false), (site 12 32, Dec.idx k), (site 12 33, Dec.ld (vi a)), (site 12 37, Dec.int i37), (site 12 38, Dec.b true)]) (keep := [2]) (L := [98309]) (sc' := []) (by kernel_rfl) (AllP_cons h1 (AllP_cons h2 (AllP_cons h3 (AllP_cons h4 (AllP_cons h5 (AllP_cons h6 (AllP_cons h7 (AllP_cons h8 (AllP_cons h9 (AllP_cons (rfl : true = true) (AllP_cons h10 (AllP_cons (rfl : true = true) AllP_nil))))))))))))
theorem rr_ynnnyyyL (full : Bool) (rows : List (List DV)) (i : Int) (fr : List Int) (i13 : Int) (e : Evt) (k : Nat) (a : Int) (i37 : Int) (i43 : Int) (i62 : Int) (k2 : Nat) (fr' : List Int) (i16 : Int) (x : X) (s : St) (h1 : ↑(List.length rows) = i13) (h2 : decide (i < i13) = true) (h3 : 0 ≤ i ∧ rows[Int.toNat i]? = some (Evt.row e)) (h4 : decide (e.th < 0) = false) (h5 : decide (e.th > 63) = false) (h6 : e.th = ↑k ∧ k < 64) (h7 : asCells C0 3 (farC fr) (0 + k * 1) = some (vi a)) (h8 : wr64 (Int.tdiv a 2) = i37) (h9 : (e.ca != i37) = false) (h10 : e.re = true) (h11 : Int.tmod a 2 = i43) (h12 : (i43 == 1) = true) (h13 : e.re = true) (h14 : wr64 (a + 1) = i62) (h15 : e.th = ↑k2 ∧ k2 < 64) (h16 : stoEq C0 3 (farC fr) (0 + k2 * 1) (vi i62) (farC fr')) (h17 : wr64 (i + 1) = i16) (h18 : hFree [98309] { objs := [(98309, 1, [AO.cells [vi e.1, vi e.2, vb e.3, vi e.an.1, vi e.an.2, vi e.an.3, vi e.an.4] false]), (98314, 1, [AO.cells (farC fr') false])] } = true) (h19 : Ev C0 noO (Task.code 12 false (loopOf Try.prog 12 0) { σ := slots 64 [(0, AV.d (DV.sl 7 full rows)), (3, AV.hs 98314 0 0 64 1), (4, vi i16)], h := { objs := [(98314, 1, [AO.cells (farC fr') false])] } }) (Res.code x s)) :
    Ev C0 noO (Task.code 12 false (loopOf Try.prog 12 0) { σ := slots 64 [(0, AV.d (DV.sl 7 full rows)), (3, AV.hs (site 12 10) 0 0 64 1), (4, vi i)], h := farH fr }) (.code (x) s) :=
  sym_ev 60 _ [(site 12 13, Dec.int i13), (site 12 14, Dec.b true), (site 12 19, Dec.row (Evt.row e)), (site 12 23, Dec.b false), (site 12 27, Dec.b false), (site 12 32, Dec.idx k), (site 12 33, Dec.ld (vi a)), (site 12 37, Dec.int i37), (site 12 38, Dec.b false), (site 12 41, Dec.b true), (site 12 43, Dec.int i43), (site 12 44, Dec.b true), (site 12 49, Dec.b true), (site 12 62, Dec.int i62), (site 12 63, Dec.idx k2), (site 12 8000, Dec.sto (farC fr')), (site 12 16, Dec.int i16), (site 12 8002, Dec.drop [98309] [0, 3, 4]), (site 12 8001, Dec.loop [0, 3, 4] x s)] _ [] _ (by kernel_rfl) (AllP_cons h1 (AllP_cons h2 (AllP_cons h3 (AllP_cons h4 (AllP_cons h5 (AllP_cons h6 (AllP_cons h7 (AllP_cons h8 (AllP_cons h9 (AllP_cons h10 (AllP_cons h11 (AllP_cons h12 (AllP_cons h13 (AllP_cons h14 (AllP_cons h15 (AllP_cons h16 (AllP_cons h17 (AllP_cons (rfl : true = true) (AllP_cons h18 (AllP_cons (rfl : true = true) (AllP_cons h19 AllP_nil)))))))))))))))))))))
theorem rr_ynnnyyneL (full : Bool) (rows : List (List DV)) (i : Int) (fr : List Int) (i13 : Int) (e : Evt) (k : Nat) (a : Int) (i37 : Int) (i43 : Int) (i62 : Int) (k2 : Nat) (fr' : List Int) (i16 : Int) (x : X) (s : St) (h1 : ↑(List.length rows) = i13) (h2 : decide (i < i13) = true) (h3 : 0 ≤ i ∧ rows[Int.toNat i]? = some (Evt.row e)) (h4 : decide (e.th < 0) = false) (h5 : decide (e.th > 63) = false) (h6 : e.th = ↑k ∧ k < 64) (h7 : asCells C0 3 (farC fr) (0 + k * 1) = some (vi a)) (h8 : wr64 (Int.tdiv a 2) = i37) (h9 : (e.ca != i37) = false) (h10 : e.re = true) (h11 : Int.tmod a 2 = i43) (h12 : (i43 == 1) = true) (h13 : e.re = false) (h14 : still C0.P (Op.equal 49 (Value.agg #[Value.int IntKind.i64 e.an.1, Value.int IntKind.i64 e.an.2, Value.int IntKind.i64 e.an.3, Value.int IntKind.i64 e.an.4]) (Value.agg #[Value.int IntKind.i64 0, Value.int IntKind.i64 0, Value.int IntKind.i64 0, Value.int IntKind.i64 0])) = some true) (h15 : wr64 (a + 1) = i62) (h16 : e.th = ↑k2 ∧ k2 < 64) (h17 : stoEq C0 3 (farC fr) (0 + k2 * 1) (vi i62) (farC fr')) (h18 : wr64 (i + 1) = i16) (h19 : hFree [98309] { objs := [(98309, 1, [AO.cells [vi e.1, vi e.2, vb e.3, vi e.an.1, vi e.an.2, vi e.an.3, vi e.an.4] false]), (98314, 1, [AO.cells (farC fr') false])] } = true) (h20 : Ev C0 noO (Task.code 12 false (loopOf Try.prog 12 0) { σ := slots 64 [(0, AV.d (DV.sl 7 full rows)), (3, AV.hs 98314 0 0 64 1), (4, vi i16)], h := { objs := [(98314, 1, [AO.cells (farC fr') false])] } }) (Res.code x s)) :
    Ev C0 noO (Task.code 12 false (loopOf Try.prog 12 0) { σ := slots 64 [(0, AV.d (DV.sl 7 full rows)), (3, AV.hs (site 12 10) 0 0 64 1), (4, vi i)], h := farH fr }) (.code (x) s) :=
  sym_ev 60 _ [(site 12 13, Dec.int i13), (site 12 14, Dec.b true), (site 12 19, Dec.row (Evt.row e)), (site 12 23, Dec.b false), (site 12 27, Dec.b false), (site 12 32, Dec.idx k), (site 12 33, Dec.ld (vi a)), (site 12 37, Dec.int i37), (site 12 38, Dec.b false), (site 12 41, Dec.b true), (site 12 43, Dec.int i43), (site 12 44, Dec.b true), (site 12 49, Dec.b false), (site 12 55, Dec.eqv true), (site 12 62, Dec.int i62), (site 12 63, Dec.idx k2), (site 12 8000, Dec.sto (farC fr')), (site 12 16, Dec.int i16), (site 12 8002, Dec.drop [98309] [0, 3, 4]), (site 12 8001, Dec.loop [0, 3, 4] x s)] _ [] _ (by kernel_rfl) (AllP_cons h1 (AllP_cons h2 (AllP_cons h3 (AllP_cons h4 (AllP_cons h5 (AllP_cons h6 (AllP_cons h7 (AllP_cons h8 (AllP_cons h9 (AllP_cons h10 (AllP_cons h11 (AllP_cons h12 (AllP_cons h13 (AllP_cons h14 (AllP_cons h15 (AllP_cons h16 (AllP_cons h17 (AllP_cons h18 (AllP_cons (rfl : true = true) (AllP_cons h19 (AllP_cons (rfl : true = true) (AllP_cons h20 AllP_nil))))))))))))))))))))))
theorem rr_ynnnyynd (full : Bool) (rows : List (List DV)) (i : Int) (fr : List Int) (i13 : Int) (e : Evt) (k : Nat) (a : Int) (i37 : Int) (i43 : Int) (h1 : ↑(List.length rows) = i13) (h2 : decide (i < i13) = true) (h3 : 0 ≤ i ∧ rows[Int.toNat i]? = some (Evt.row e)) (h4 : decide (e.th < 0) = false) (h5 : decide (e.th > 63) = false) (h6 : e.th = ↑k ∧ k < 64) (h7 : asCells C0 3 (farC fr) (0 + k * 1) = some (vi a)) (h8 : wr64 (Int.tdiv a 2) = i37) (h9 : (e.ca != i37) = false) (h10 : e.re = true) (h11 : Int.tmod a 2 = i43) (h12 : (i43 == 1) = true) (h13 : e.re = false) (h14 : still C0.P (Op.equal 49 (Value.agg #[Value.int IntKind.i64 e.an.1, Value.int IntKind.i64 e.an.2, Value.int IntKind.i64 e.an.3, Value.int IntKind.i64 e.an.4]) (Value.agg #[Value.int IntKind.i64 0, Value.int IntKind.i64 0, Value.int IntKind.i64 0, Value.int IntKind.i64 0])) = some false) (h15 : hFree [98309] { objs := [(98309, 1, [AO.cells [vi e.1, vi e.2, vb e.3, vi e.an.1, vi e.an.2, vi e.an.3, vi e.an.4] false]), (98314, 1, [AO.cells (farC fr) false])] } = true) :
    Ev C0 noO (Task.code 12 false (loopOf Try.prog 12 0) { σ := slots 64 [(0, AV.d (DV.sl 7 full rows)), (3, AV.hs (site 12 10) 0 0 64 1), (4, vi i)], h := farH fr }) (.code (X.ret) { σ := slots 64 [(2, vb false)], h := { objs := [(98314, 1, [AO.cells (farC fr) false])] } }) :=
  symD_ev (n := 60) (sc := [(site 12 13, Dec.int i13), (site 12 14, Dec.b true), (site 12 19, Dec.row (Evt.row e)), (site 12 23, Dec.b false), (site 12 27, Dec.b false), (site 12 32, Dec.idx k), (site 12 33, Dec.ld (vi a)), (site 12 37, Dec.int i37), (site 12 38, Dec.b false), (site 12 41, Dec.b true), (site 12 43, Dec.int i43), (site 12 44, Dec.b true), (site 12 49, Dec.b false), (site 12 55, Dec.eqv false)]) (keep := [2]) (L := [98309]) (sc' := []) (by kernel_rfl) (AllP_cons h1 (AllP_cons h2 (AllP_cons h3 (AllP_cons h4 (AllP_cons h5 (AllP_cons h6 (AllP_cons h7 (AllP_cons h8 (AllP_cons h9 (AllP_cons h10 (AllP_cons h11 (AllP_cons h12 (AllP_cons h13 (AllP_cons h14 (AllP_cons (rfl : true = true) (AllP_cons h15 (AllP_cons (rfl : true = true) AllP_nil)))))))))))))))))
theorem rr_ynnnyn (full : Bool) (rows : List (List DV)) (i : Int) (fr : List Int) (i13 : Int) (e : Evt) (k : Nat) (a : Int) (i37 : Int) (i43 : Int) (h1 : ↑(List.length rows) = i13) (h2 : decide (i < i13) = true) (h3 : 0 ≤ i ∧ rows[Int.toNat i]? = some (Evt.row e)) (h4 : decide (e.th < 0) = false) (h5 : decide (e.th > 63) = false) (h6 : e.th = ↑k ∧ k < 64) (h7 : asCells C0 3 (farC fr) (0 + k * 1) = some (vi a)) (h8 : wr64 (Int.tdiv a 2) = i37) (h9 : (e.ca != i37) = false) (h10 : e.re = true) (h11 : Int.tmod a 2 = i43) (h12 : (i43 == 1) = false) (h13 : hFree [98309] { objs := [(98309, 1, [AO.cells [vi e.1, vi e.2, vb e.3, vi e.an.1, vi e.an.2, vi e.an.3, vi e.an.4] false]), (98314, 1, [AO.cells (farC fr) false])] } = true) :
    Ev C0 noO (Task.code 12 false (loopOf Try.prog 12 0) { σ := slots 64 [(0, AV.d (DV.sl 7 full rows)), (3, AV.hs (site 12 10) 0 0 64 1), (4, vi i)], h := farH fr }) (.code (X.ret) { σ := slots 64 [(2, vb false)], h := { objs := [(98314, 1, [AO.cells (farC fr) false])] } }) :=
  symD_ev (n := 60) (sc := [(site 12 13, Dec.int i13), (site 12 14, Dec.b true), (site 12 19, Dec.row (Evt.row e)), (site 12 23, Dec.b false), (site 12 27, Dec.b false), (site 12 32, Dec.idx k), (site 12 33, Dec.ld (vi a)), (site 12 37, Dec.int i37), (site 12 38, Dec.b false), (site 12 41, Dec.b true), (site 12 43, Dec.int i43), (site 12 44, Dec.b false)]) (keep := [2]) (L := [98309]) (sc' := []) (by kernel_rfl) (AllP_cons h1 (AllP_cons h2 (AllP_cons h3 (AllP_cons h4 (AllP_cons h5 (AllP_cons h6 (AllP_cons h7 (AllP_cons h8 (AllP_cons h9 (AllP_cons h10 (AllP_cons h11 (AllP_cons h12 (AllP_cons (rfl : true = true) (AllP_cons h13 (AllP_cons (rfl : true = true) AllP_nil)))))))))))))))
theorem rr_ynnnny (full : Bool) (rows : List (List DV)) (i : Int) (fr : List Int) (i13 : Int) (e : Evt) (k : Nat) (a : Int) (i37 : Int) (i43 : Int) (h1 : ↑(List.length rows) = i13) (h2 : decide (i < i13) = true) (h3 : 0 ≤ i ∧ rows[Int.toNat i]? = some (Evt.row e)) (h4 : decide (e.th < 0) = false) (h5 : decide (e.th > 63) = false) (h6 : e.th = ↑k ∧ k < 64) (h7 : asCells C0 3 (farC fr) (0 + k * 1) = some (vi a)) (h8 : wr64 (Int.tdiv a 2) = i37) (h9 : (e.ca != i37) = false) (h10 : e.re = false) (h11 : Int.tmod a 2 = i43) (h12 : (i43 == 1) = true) (h13 : hFree [98309] { objs := [(98309, 1, [AO.cells [vi e.1, vi e.2, vb e.3, vi e.an.1, vi e.an.2, vi e.an.3, vi e.an.4] false]), (98314, 1, [AO.cells (farC fr) false])] } = true) :
    Ev C0 noO (Task.code 12 false (loopOf Try.prog 12 0) { σ := slots 64 [(0, AV.d (DV.sl 7 full rows)), (3, AV.hs (site 12 10) 0 0 64 1), (4, vi i)], h := farH fr }) (.code (X.ret) { σ := slots 64 [(2, vb false)], h := { objs := [(98314, 1, [AO.cells (farC fr) false])] } }) :=
  symD_ev (n := 60) (sc := [(site 12 13, Dec.int i13), (site 12 14, Dec.b true), (site 12 19, Dec.row (Evt.row e)), (site 12 23, Dec.b false), (site 12 27, Dec.b false), (site 12 32, Dec.idx k), (site 12 33, Dec.ld (vi a)), (site 12 37, Dec.int i37), (site 12 38, Dec.b false), (site 12 41, Dec.b false), (site 12 43, Dec.int i43), (site 12 44, Dec.b true)]) (keep := [2]) (L := [98309]) (sc' := []) (by kernel_rfl) (AllP_cons h1 (AllP_cons h2 (AllP_cons h3 (AllP_cons h4 (AllP_cons h5 (AllP_cons h6 (AllP_cons h7 (AllP_cons h8 (AllP_cons h9 (AllP_cons h10 (AllP_cons h11 (AllP_cons h12 (AllP_cons (rfl : true = true) (AllP_cons h13 (AllP_cons (rfl : true = true) AllP_nil)))))))))))))))
theorem rr_ynnnnnyL (full : Bool) (rows : List (List DV)) (i : Int) (fr : List Int) (i13 : Int) (e : Evt) (k : Nat) (a : Int) (i37 : Int) (i43 : Int) (i62 : Int) (k2 : Nat) (fr' : List Int) (i16 : Int) (x : X) (s : St) (h1 : ↑(List.length rows) = i13) (h2 : decide (i < i13) = true) (h3 : 0 ≤ i ∧ rows[Int.toNat i]? = some (Evt.row e)) (h4 : decide (e.th < 0) = false) (h5 : decide (e.th > 63) = false) (h6 : e.th = ↑k ∧ k < 64) (h7 : asCells C0 3 (farC fr) (0 + k * 1) = some (vi a)) (h8 : wr64 (Int.tdiv a 2) = i37) (h9 : (e.ca != i37) = false) (h10 : e.re = false) (h11 : Int.tmod a 2 = i43) (h12 : (i43 == 1) = false) (h13 : e.re = true) (h14 : wr64 (a + 1) = i62) (h15 : e.th = ↑k2 ∧ k2 < 64) (h16 : stoEq C0 3 (farC fr) (0 + k2 * 1) (vi i62) (farC fr')) (h17 : wr64 (i + 1) = i16) (h18 : hFree [98309] { objs := [(98309, 1, [AO.cells [vi e.1, vi e.2, vb e.3, vi e.an.1, vi e.an.2, vi e.an.3, vi e.an.4] false]), (98314, 1, [AO.cells (farC fr') false])] } = true) (h19 : Ev C0 noO (Task.code 12 false (loopOf Try.prog 12 0) { σ := slots 64 [(0, AV.d (DV.sl 7 full rows)), (3, AV.hs 98314 0 0 64 1), (4, vi i16)], h := { objs := [(98314, 1, [AO.cells (farC fr') false])] } }) (Res.code x s)) :
    Ev C0 noO (Task.code 12 false (loopOf Try.prog 12 0) { σ := slots 64 [(0, AV.d (DV.sl 7 full rows)), (3, AV.hs (site 12 10) 0 0 64 1), (4, vi i)], h := farH fr }) (.code (x) s) :=
  sym_ev 60 _ [(site 12 13, Dec.int i13), (site 12 14, Dec.b true), (site 12 19, Dec.row (Evt.row e)), (site 12 23, Dec.b false), (site 12 27, Dec.b false), (site 12 32, Dec.idx k), (site 12 33, Dec.ld (vi a)), (site 12 37, Dec.int i37), (site 12 38, Dec.b false), (site 12 41, Dec.b false), (site 12 43, Dec.int i43), (site 12 44, Dec.b false), (site 12 49, Dec.b true), (site 12 62, Dec.int i62), (site 12 63, Dec.idx k2), (site 12 8000, Dec.sto (farC fr')), (site 12 16, Dec.int i16), (site 12 8002, Dec.drop [98309] [0, 3, 4]), (site 12 8001, Dec.loop [0, 3, 4] x s)] _ [] _ (by kernel_rfl) (AllP_cons h1 (AllP_cons h2 (AllP_cons h3 (AllP_cons h4 (AllP_cons h5 (AllP_cons h6 (AllP_cons h7 (AllP_cons h8 (AllP_cons h9 (AllP_cons h10 (AllP_cons h11 (AllP_cons h12 (AllP_cons h13 (AllP_cons h14 (AllP_cons h15 (AllP_cons h16 (AllP_cons h17 (AllP_cons (rfl : true = true) (AllP_cons h18 (AllP_cons (rfl : true = true) (AllP_cons h19 AllP_nil)))))))))))))))))))))
theorem rr_ynnnnnneL (full : Bool) (rows : List (List DV)) (i : Int) (fr : List Int) (i13 : Int) (e : Evt) (k : Nat) (a : Int) (i37 : Int) (i43 : Int) (i62 : Int) (k2 : Nat) (fr' : List Int) (i16 : Int) (x : X) (s : St) (h1 : ↑(List.length rows) = i13) (h2 : decide (i < i13) = true) (h3 : 0 ≤ i ∧ rows[Int.toNat i]? = some (Evt.row e)) (h4 : decide (e.th < 0) = false) (h5 : decide (e.th > 63) = false) (h6 : e.th = ↑k ∧ k < 64) (h7 : asCells C0 3 (farC fr) (0 + k * 1) = some (vi a)) (h8 : wr64 (Int.tdiv a 2) = i37) (h9 : (e.ca != i37) = false) (h10 : e.re = false) (h11 : Int.tmod a 2 = i43) (h12 : (i43 == 1) = false) (h13 : e.re = false) (h14 : still C0.P (Op.equal 49 (Value.agg #[Value.int IntKind.i64 e.an.1, Value.int IntKind.i64 e.an.2, Value.int IntKind.i64 e.an.3, Value.int IntKind.i64 e.an.4]) (Value.agg #[Value.int IntKind.i64 0, Value.int IntKind.i64 0, Value.int IntKind.i64 0, Value.int IntKind.i64 0])) = some true) (h15 : wr64 (a + 1) = i62) (h16 : e.th = ↑k2 ∧ k2 < 64) (h17 : stoEq C0 3 (farC fr) (0 + k2 * 1) (vi i62) (farC fr')) (h18 : wr64 (i + 1) = i16) (h19 : hFree [98309] { objs := [(98309, 1, [AO.cells [vi e.1, vi e.2, vb e.3, vi e.an.1, vi e.an.2, vi e.an.3, vi e.an.4] false]), (98314, 1, [AO.cells (farC fr') false])] } = true) (h20 : Ev C0 noO (Task.code 12 false (loopOf Try.prog 12 0) { σ := slots 64 [(0, AV.d (DV.sl 7 full rows)), (3, AV.hs 98314 0 0 64 1), (4, vi i16)], h := { objs := [(98314, 1, [AO.cells (farC fr') false])] } }) (Res.code x s)) :
    Ev C0 noO (Task.code 12 false (loopOf Try.prog 12 0) { σ := slots 64 [(0, AV.d (DV.sl 7 full rows)), (3, AV.hs (site 12 10) 0 0 64 1), (4, vi i)], h := farH fr }) (.code (x) s) :=
  sym_ev 60 _ [(site 12 13, Dec.int i13), (site 12 14, Dec.b true), (site 12 19, Dec.row (Evt.row e)), (site 12 23, Dec.b false), (site 12 27, Dec.b false), (site 12 32, Dec.idx k), (site 12 33, Dec.ld (vi a)), (site 12 37, Dec.int i37), (site 12 38, Dec.b false), (site 12 41, Dec.b false), (site 12 43, Dec.int i43), (site 12 44, Dec.b false), (site 12 49, Dec.b false), (site 12 55, Dec.eqv true), (site 12 62, Dec.int i62), (site 12 63, Dec.idx k2), (site 12 8000, Dec.sto (farC fr')), (site 12 16, Dec.int i16), (site 12 8002, Dec.drop [98309] [0, 3, 4]), (site 12 8001, Dec.loop [0, 3, 4] x s)] _ [] _ (by kernel_rfl) (AllP_cons h1 (AllP_cons h2 (AllP_cons h3 (AllP_cons h4 (AllP_cons h5 (AllP_cons h6 (AllP_cons h7 (AllP_cons h8 (AllP_cons h9 (AllP_cons h10 (AllP_cons h11 (AllP_cons h12 (AllP_cons h13 (AllP_cons h14 (AllP_cons h15 (AllP_cons h16 (AllP_cons h17 (AllP_cons h18 (AllP_cons (rfl : true = true) (AllP_cons h19 (AllP_cons (rfl : true = true) (AllP_cons h20 AllP_nil))))))))))))))))))))))
theorem rr_ynnnnnnd (full : Bool) (rows : List (List DV)) (i : Int) (fr : List Int) (i13 : Int) (e : Evt) (k : Nat) (a : Int) (i37 : Int) (i43 : Int) (h1 : ↑(List.length rows) = i13) (h2 : decide (i < i13) = true) (h3 : 0 ≤ i ∧ rows[Int.toNat i]? = some (Evt.row e)) (h4 : decide (e.th < 0) = false) (h5 : decide (e.th > 63) = false) (h6 : e.th = ↑k ∧ k < 64) (h7 : asCells C0 3 (farC fr) (0 + k * 1) = some (vi a)) (h8 : wr64 (Int.tdiv a 2) = i37) (h9 : (e.ca != i37) = false) (h10 : e.re = false) (h11 : Int.tmod a 2 = i43) (h12 : (i43 == 1) = false) (h13 : e.re = false) (h14 : still C0.P (Op.equal 49 (Value.agg #[Value.int IntKind.i64 e.an.1, Value.int IntKind.i64 e.an.2, Value.int IntKind.i64 e.an.3, Value.int IntKind.i64 e.an.4]) (Value.agg #[Value.int IntKind.i64 0, Value.int IntKind.i64 0, Value.int IntKind.i64 0, Value.int IntKind.i64 0])) = some false) (h15 : hFree [98309] { objs := [(98309, 1, [AO.cells [vi e.1, vi e.2, vb e.3, vi e.an.1, vi e.an.2, vi e.an.3, vi e.an.4] false]), (98314, 1, [AO.cells (farC fr) false])] } = true) :
    Ev C0 noO (Task.code 12 false (loopOf Try.prog 12 0) { σ := slots 64 [(0, AV.d (DV.sl 7 full rows)), (3, AV.hs (site 12 10) 0 0 64 1), (4, vi i)], h := farH fr }) (.code (X.ret) { σ := slots 64 [(2, vb false)], h := { objs := [(98314, 1, [AO.cells (farC fr) false])] } }) :=
  symD_ev (n := 60) (sc := [(site 12 13, Dec.int i13), (site 12 14, Dec.b true), (site 12 19, Dec.row (Evt.row e)), (site 12 23, Dec.b false), (site 12 27, Dec.b false), (site 12 32, Dec.idx k), (site 12 33, Dec.ld (vi a)), (site 12 37, Dec.int i37), (site 12 38, Dec.b false), (site 12 41, Dec.b false), (site 12 43, Dec.int i43), (site 12 44, Dec.b false), (site 12 49, Dec.b false), (site 12 55, Dec.eqv false)]) (keep := [2]) (L := [98309]) (sc' := []) (by kernel_rfl) (AllP_cons h1 (AllP_cons h2 (AllP_cons h3 (AllP_cons h4 (AllP_cons h5 (AllP_cons h6 (AllP_cons h7 (AllP_cons h8 (AllP_cons h9 (AllP_cons h10 (AllP_cons h11 (AllP_cons h12 (AllP_cons h13 (AllP_cons h14 (AllP_cons (rfl : true = true) (AllP_cons h15 (AllP_cons (rfl : true = true) AllP_nil)))))))))))))))))
theorem rr_n (full : Bool) (rows : List (List DV)) (i : Int) (fr : List Int) (i13 : Int) (h1 : ↑(List.length rows) = i13) (h2 : decide (i < i13) = false) (h3 : hFree [98309] { objs := [(98314, 1, [AO.cells (farC fr) false])] } = true) :
    Ev C0 noO (Task.code 12 false (loopOf Try.prog 12 0) { σ := slots 64 [(0, AV.d (DV.sl 7 full rows)), (3, AV.hs (site 12 10) 0 0 64 1), (4, vi i)], h := farH fr }) (.code (X.exit 0) { σ := slots 64 [], h := { objs := [(98314, 1, [AO.cells (farC fr) false])] } }) :=
  symD_ev (n := 60) (sc := [(site 12 13, Dec.int i13), (site 12 14, Dec.b false)]) (keep := []) (L := [98309]) (sc' := []) (by kernel_rfl) (AllP_cons h1 (AllP_cons h2 (AllP_cons (rfl : true = true) (AllP_cons h3 (AllP_cons (rfl : true = true) AllP_nil)))))
theorem rrc_y (full : Bool) (rows : List (List DV)) (i8 : Int) (h1 : ↑(List.length rows) = i8) (h2 : decide (i8 > 2000) = true) :
    Ev C0 noO (Task.call 12 [AV.d (DV.sl 7 full rows)] { }) (.val (vb false) { }) :=
  sym_ev 60 _ [(site 12 8, Dec.int i8), (site 12 9, Dec.b true)] _ [] _ (by kernel_rfl) (AllP_cons h1 (AllP_cons h2 AllP_nil))
theorem rrc_nl1 (full : Bool) (rows : List (List DV)) (i8 : Int) (h1 : ↑(List.length rows) = i8) (h2 : decide (i8 > 2000) = false) (h3 : Ev C0 noO (Task.code 12 false (loopOf Try.prog 12 0) { σ := slots 64 [(0, AV.d (DV.sl 7 full rows)), (3, AV.hs 98314 0 0 64 1), (4, vi 0)], h := { objs := [(98314, 1, [AO.cells (farC far0) false])] } }) (Res.code (X.exit 0) { σ := slots 64 [], h := H.push { } (site 12 10) AO.dead })) :
    Ev C0 noO (Task.call 12 [AV.d (DV.sl 7 full rows)] { }) (.val (vb true) { objs := [(98314, 1, [AO.dead])] }) :=
  sym_ev 60 _ [(site 12 8, Dec.int i8), (site 12 9, Dec.b false), (site 12 8001, Dec.loop [0, 3, 4] (X.exit 0) { σ := slots 64 [], h := H.push { } (site 12 10) AO.dead })] _ [] _ (by kernel_rfl) (AllP_cons h1 (AllP_cons h2 (AllP_cons h3 AllP_nil)))
theorem rrc_nl2 (full : Bool) (rows : List (List DV)) (i8 : Int) (h1 : ↑(List.length rows) = i8) (h2 : decide (i8 > 2000) = false) (h3 : Ev C0 noO (Task.code 12 false (loopOf Try.prog 12 0) { σ := slots 64 [(0, AV.d (DV.sl 7 full rows)), (3, AV.hs 98314 0 0 64 1), (4, vi 0)], h := { objs := [(98314, 1, [AO.cells (farC far0) false])] } }) (Res.code X.ret { σ := slots 64 [(2, vb false)], h := H.push { } (site 12 10) AO.dead })) :
    Ev C0 noO (Task.call 12 [AV.d (DV.sl 7 full rows)] { }) (.val (vb false) { objs := [(98314, 1, [AO.dead])] }) :=
  sym_ev 60 _ [(site 12 8, Dec.int i8), (site 12 9, Dec.b false), (site 12 8001, Dec.loop [0, 3, 4] X.ret { σ := slots 64 [(2, vb false)], h := H.push { } (site 12 10) AO.dead })] _ [] _ (by kernel_rfl) (AllP_cons h1 (AllP_cons h2 (AllP_cons h3 AllP_nil)))
theorem rrN_ (h1 : Ev C0 noO (Task.code 12 false (loopOf Try.prog 12 0) { σ := slots 64 [(0, AV.d (DV.v (Value.slice none 0 0))), (3, AV.hs 98314 0 0 64 1), (4, vi 0)], h := { objs := [(98314, 1, [AO.cells (farC far0) false])] } }) (Res.code (X.exit 0) { σ := slots 64 [], h := H.push { } (site 12 10) AO.dead })) :
    Ev C0 noO (Task.call 12 [AV.d (DV.v (Value.slice none 0 0))] { }) (.val (vb true) { objs := [(98314, 1, [AO.dead])] }) :=
  sym_ev 60 _ [(site 12 8001, Dec.loop [0, 3, 4] (X.exit 0) { σ := slots 64 [], h := H.push { } (site 12 10) AO.dead })] _ [] _ (by kernel_rfl) (AllP_cons h1 AllP_nil)
theorem rrA_ (fr : List Int) (h1 : hFree [98309] { objs := [(98314, 1, [AO.cells (farC fr) false])] } = true) :
    Ev C0 noO (Task.code 12 false (loopOf Try.prog 12 0) { σ := slots 64 [(0, AV.d (DV.v (Value.slice none 0 0))), (3, AV.hs (site 12 10) 0 0 64 1), (4, vi 0)], h := farH fr }) (.code (X.exit 0) { σ := slots 64 [], h := { objs := [(98314, 1, [AO.cells (farC fr) false])] } }) :=
  symD_ev (n := 60) (sc := []) (keep := []) (L := [98309]) (sc' := []) (by kernel_rfl) (AllP_cons (rfl : true = true) (AllP_cons h1 (AllP_cons (rfl : true = true) AllP_nil)))

end Go.Ev

namespace Go.Ev
open Go Go.RowKit Go.Proofs

theorem far_w (a : Int) : ([vi a] : List AV).length = 1 := rfl
theorem farC_free (L : List Nat) (l : List Int) : avFreeL L (farC l) = true := avFreeL_flat L (fun _ => rfl) l
theorem far_ld {C : Ctx} (hC : C.P = Try.prog) {fr : List Int} {k : Nat} {a : Int} (h : fr[k]? = some a) : asCells C 3 (farC fr) (0 + k * 1) = some (vi a) := by
  unfold asCells
  rw [(agg3 hC).1, (agg3 hC).2]
  exact fl_get (j := 0) far_w h rfl
theorem far_st {C : Ctx} (hC : C.P = Try.prog) {fr : List Int} {k : Nat} {a : Int} (b : Int) (h : fr[k]? = some a) : stoEq C 3 (farC fr) (0 + k * 1) (vi b) (farC (fr.set k b)) := by
  obtain ⟨h1, h2⟩ := fl_put (f := fun a : Int => [vi a]) (j := 0) (a' := b) (xs := cellsA (vi b)) far_w h rfl (by simp [cellsA, vi])
  exact ⟨1, (agg3 hC).2, rfl, h2, rfl, h1.symm⟩

def rrStep (fr : List Int) (e : Evt) : Option (List Int) :=
  if e.th < 0 ∨ e.th > 63 then none else
  match fr[e.th.toNat]? with
  | none => none
  | some a => if e.ca = a / 2 ∧ e.re = decide (a % 2 = 1) ∧ (e.re = true ∨ e.an = ans0) then some (fr.set e.th.toNat (a + 1)) else none
def rrL : List Int → List Evt → Bool
  | _, [] => true
  | fr, e :: l => match rrStep fr e with
    | none => false
    | some fr' => rrL fr' l
def refRightB (l : List Evt) : Bool := if l.length > 2000 then false else rrL far0 l

def rrOut : Bool → X × St
  | true => (.exit 0, { σ := slots 64 [], h := ({} : H).push (site 12 10) .dead })
  | false => (.ret, { σ := slots 64 [(2, vb false)], h := ({} : H).push (site 12 10) .dead })
def rrHd (y : DV) (i : Int) (fr : List Int) : St := { σ := slots 64 [(0, .d y), (3, .hs (site 12 10) 0 0 64 1), (4, vi i)], h := farH fr }
theorem killRr {fn : FuncId} {rd : Bool} {c : Code} {s : St} {x : X} {σ : List AV} {o : AO} (h : Ev C0 noO (.code fn rd c s) (.code x { σ := σ, h := ({} : H).push (site 12 10) o })) : Ev C0 noO (.code fn rd c s) (.code x { σ := σ, h := ({} : H).push (site 12 10) .dead }) :=
  .killOut _ _ _ _ _ _ (site 12 10) 0 o rfl h
theorem rr_free (fr : List Int) (cs : List AV) : hFree [98309] { objs := [(98309, 1, [AO.cells cs false]), (98314, 1, [AO.cells (farC fr) false])] } = true := by simp [hFree, objFree, farC_free]
theorem rr_free1 (fr : List Int) : hFree [98309] { objs := [(98314, 1, [AO.cells (farC fr) false])] } = true := by simp [hFree, objFree, farC_free]

theorem rr_loop (full : Bool) (all : List Evt) (hb : all.length < 2 ^ 40) : ∀ (rest pre : List Evt) (fr : List Int), pre ++ rest = all → (∀ (k : Nat) (a : Int), fr[k]? = some a → 0 ≤ a ∧ a ≤ pre.length) → fr.length = 64 →
    Ev C0 noO (.code 12 false (loopOf Try.prog 12 0) (rrHd (.sl 7 full (evRows all)) (pre.length : Nat) fr)) (.code (rrOut (rrL fr rest)).1 (rrOut (rrL fr rest)).2)
  | [], pre, fr, h, hn, hl => killRr (o := .cells (farC fr) false) (rr_n _ _ _ fr (all.length : Nat) (by simp [evRows]) (dge (by subst h; simp)) (rr_free1 fr))
  | e :: rest, pre, fr, h, hn, hl => by
    have hlt := pre_lt h
    have hrow := row_at (g := Evt.row) h
    have hlen : (((evRows all).length : Nat) : Int) = (all.length : Nat) := by simp [evRows]
    have hn' : ∀ (k : Nat) (a : Int), fr[k]? = some a → 0 ≤ a ∧ a ≤ ((pre.length + 1 : Nat) : Int) := fun k n hk => by have := hn k n hk; omega
    have ih := fun fr' hi hl' => rr_loop full all hb rest (pre ++ [e]) fr' (pre_snoc h) hi hl'
    simp only [len_snoc] at ih
    unfold rrL rrStep
    by_cases h1 : e.th < 0
    · rw [if_pos (.inl h1)]
      exact killRr (o := .cells (farC fr) false) (rr_yy _ _ _ fr _ e hlen (dlt hlt) hrow (by simpa using h1) (rr_free fr _))
    by_cases h2 : e.th > 63
    · rw [if_pos (.inr h2)]
      exact killRr (o := .cells (farC fr) false) (rr_yny _ _ _ fr _ e hlen (dlt hlt) hrow (by simpa using h1) (by simpa using h2) (rr_free fr _))
    rw [if_neg (by omega)]
    have hk : e.th.toNat < fr.length := by omega
    have hkn : fr[e.th.toNat]? = some fr[e.th.toNat] := List.getElem?_eq_getElem hk
    have hth : e.th = ((e.th.toNat : Nat) : Int) ∧ e.th.toNat < 64 := by omega
    generalize hkk : e.th.toNat = k at hk hkn hth ⊢
    generalize fr[k] = a at hkn
    have h1' : decide (e.th < 0) = false := by simpa using h1
    have h2' : decide (e.th > 63) = false := by simpa using h2
    clear h1 h2 hkk h
    rw [hkn]
    simp only
    obtain ⟨ha1, ha2⟩ := hn k a hkn
    have l1 := far_ld (C := C0) rfl hkn
    have hq : wr64 (Int.tdiv a 2) = a / 2 := by rw [Int.tdiv_eq_ediv_of_nonneg ha1]; exact wrap_ok (by omega) (by omega)
    have hm : Int.tmod a 2 = a % 2 := Int.tmod_eq_emod_of_nonneg ha1
    have hs := far_st (C := C0) rfl (a + 1) hkn
    have hw : wr64 (a + 1) = a + 1 := wrap_ok (by omega) (by omega)
    have heq := eq49 9997 e.an ans0
    have ihs := ih (fr.set k (a + 1)) (set_inv hn' (by omega)) (by simpa using hl)
    by_cases h3 : e.ca = a / 2
    · have h3' : (e.ca != a / 2) = false := by simpa using h3
      cases hr : e.re with
      | true =>
        by_cases h4 : a % 2 = 1
        · rw [if_pos ⟨h3, by simp [h4], .inl rfl⟩]
          exact rr_ynnnyyyL _ _ _ fr _ e k a _ _ _ k _ _ _ _ hlen (dlt hlt) hrow h1' h2' hth l1 hq h3' hr hm (by simpa using h4) hr hw hth hs (wrap_succ (by omega)) (rr_free _ _) ihs
        · rw [if_neg (fun h => by simp [h4] at h)]
          exact killRr (o := .cells (farC fr) false) (rr_ynnnyn _ _ _ fr _ e k a _ _ hlen (dlt hlt) hrow h1' h2' hth l1 hq h3' hr hm (by simpa using h4) (rr_free _ _))
      | false =>
        by_cases h4 : a % 2 = 1
        · rw [if_neg (fun h => by simp [h4] at h)]
          exact killRr (o := .cells (farC fr) false) (rr_ynnnny _ _ _ fr _ e k a _ _ hlen (dlt hlt) hrow h1' h2' hth l1 hq h3' hr hm (by simpa using h4) (rr_free _ _))
        · by_cases h5 : e.an = ans0
          · rw [if_pos ⟨h3, by simp [h4], .inr h5⟩]
            exact rr_ynnnnnneL _ _ _ fr _ e k a _ _ _ k _ _ _ _ hlen (dlt hlt) hrow h1' h2' hth l1 hq h3' hr hm (by simpa using h4) hr (heq.trans (by rw [decide_eq_true h5])) hw hth hs (wrap_succ (by omega)) (rr_free _ _) ihs
          · rw [if_neg (fun h => by rcases h.2.2 with h | h; cases h; exact h5 h)]
            exact killRr (o := .cells (farC fr) false) (rr_ynnnnnnd _ _ _ fr _ e k a _ _ hlen (dlt hlt) hrow h1' h2' hth l1 hq h3' hr hm (by simpa using h4) hr (heq.trans (by rw [decide_eq_false h5])) (rr_free _ _))
    · rw [if_neg (fun h => h3 h.1)]
      exact killRr (o := .cells (farC fr) false) (rr_ynny _ _ _ fr _ e k a _ hlen (dlt hlt) hrow h1' h2' hth l1 hq (by simpa using h3) (rr_free _ _))

def refRightSpec : Spec
  | [p] => match evtsOf p with
    | some l => if l.length < 2 ^ 40 then some [pbool (refRightB l)] else none
    | none => none
  | _ => none
theorem far0_inv : ∀ (k : Nat) (a : Int), far0[k]? = some a → 0 ≤ a ∧ a ≤ ((0 : Nat) : Int) := by
  intro k n h
  simp only [far0, List.getElem?_replicate] at h
  split at h
  · simp only [Option.some.injEq] at h; subst h; simp
  · cases h
theorem refRight_sat : Sat C0 12 refRightSpec := by
  refine sat_of_ev (O := noO) hP0 (fun _ _ h => h.elim) hm0 fun ps rs hs => ?_
  unfold refRightSpec at hs
  split at hs
  · split at hs
    · rename_i p l hl
      split at hs
      · rename_i hb
        simp only [Option.some.injEq] at hs
        subst hs
        rcases evtsOf_cases hl with ⟨rfl, rfl⟩ | ⟨full, rfl⟩
        · exact ⟨_, _, _, rrN_ (killRr (o := .cells (farC far0) false) (rrA_ far0 (rr_free1 far0))), rfl⟩
        · unfold refRightB
          by_cases hlen : l.length > 2000
          · rw [if_pos hlen]
            exact ⟨_, _, _, rrc_y full _ (l.length : Nat) (by simp [evRows]) (by simp; omega), rfl⟩
          · rw [if_neg hlen]
            have h2 := rr_loop full l hb l [] far0 rfl far0_inv (by simp [far0])
            have hlen' : decide (((l.length : Nat) : Int) > 2000) = false := by simp; omega
            cases e : rrL far0 l with
            | true =>
              rw [e] at h2
              exact ⟨_, _, _, rrc_nl1 full _ (l.length : Nat) (by simp [evRows]) hlen' h2, rfl⟩
            | false =>
              rw [e] at h2
              exact ⟨_, _, _, rrc_nl2 full _ (l.length : Nat) (by simp [evRows]) hlen' h2, rfl⟩
      · cases hs
    · cases hs
  · cases hs

end Go.Ev

namespace Go.Ev
open Go Go.RowKit Go.Proofs

theorem ro_yyL (full : Bool) (rows : List (List DV)) (i : Int) (k : Int) (i9 : Int) (e : Evt) (e2 : Evt) (i12 : Int) (x : X) (s : St) (h1 : ↑(List.length rows) = i9) (h2 : decide (i < i9) = true) (h3 : 0 ≤ i ∧ rows[Int.toNat i]? = some [di e.1, di e.2, db e.3, di e.an.1, di e.an.2, di e.an.3, di e.an.4]) (h4 : (e.th == k) = true) (h5 : 0 ≤ i ∧ rows[Int.toNat i]? = some [di e2.1, di e2.2, db e2.3, di e2.an.1, di e2.an.2, di e2.an.3, di e2.an.4]) (h6 : wr64 (i + 1) = i12) (h7 : Ev C0 noO (Task.code 15 false (loopOf Try.prog 15 0) { σ := slots 28 [(0, AV.d (DV.sl 7 full rows)), (1, vi k), (5, AV.st 7 [[di e2.1, di e2.2, db e2.3, di e2.an.1, di e2.an.2, di e2.an.3, di e2.an.4]] 122906 1), (6, vi i12)], h := { toks := [(122906, 1)] } }) (Res.code x s)) :
    Ev C0 noO (Task.code 15 false (loopOf Try.prog 15 0) { σ := slots 28 [(0, AV.d (DV.sl 7 full rows)), (1, vi k), (5, AV.d (DV.v (Value.slice none 0 0))), (6, vi i)], h := { } }) (.code (x) s) :=
  sym_ev 60 _ [(site 15 9, Dec.int i9), (site 15 10, Dec.b true), (site 15 15, Dec.row (Evt.row e)), (site 15 19, Dec.b true), (site 15 23, Dec.row (Evt.row e2)), (site 15 12, Dec.int i12), (site 15 8001, Dec.loop [0, 1, 5, 6] x s)] _ [] _ (by kernel_rfl) (AllP_cons h1 (AllP_cons h2 (AllP_cons h3 (AllP_cons h4 (AllP_cons h5 (AllP_cons h6 (AllP_cons h7 AllP_nil)))))))
theorem ro_ynL (full : Bool) (rows : List (List DV)) (i : Int) (k : Int) (i9 : Int) (e : Evt) (i12 : Int) (x : X) (s : St) (h1 : ↑(List.length rows) = i9) (h2 : decide (i < i9) = true) (h3 : 0 ≤ i ∧ rows[Int.toNat i]? = some [di e.1, di e.2, db e.3, di e.an.1, di e.an.2, di e.an.3, di e.an.4]) (h4 : (e.th == k) = false) (h5 : wr64 (i + 1) = i12) (h6 : Ev C0 noO (Task.code 15 false (loopOf Try.prog 15 0) { σ := slots 28 [(0, AV.d (DV.sl 7 full rows)), (1, vi k), (5, AV.d (DV.v (Value.slice none 0 0))), (6, vi i12)], h := { } }) (Res.code x s)) :
    Ev C0 noO (Task.code 15 false (loopOf Try.prog 15 0) { σ := slots 28 [(0, AV.d (DV.sl 7 full rows)), (1, vi k), (5, AV.d (DV.v (Value.slice none 0 0))), (6, vi i)], h := { } }) (.code (x) s) :=
  sym_ev 60 _ [(site 15 9, Dec.int i9), (site 15 10, Dec.b true), (site 15 15, Dec.row (Evt.row e)), (site 15 19, Dec.b false), (site 15 12, Dec.int i12), (site 15 8001, Dec.loop [0, 1, 5, 6] x s)] _ [] _ (by kernel_rfl) (AllP_cons h1 (AllP_cons h2 (AllP_cons h3 (AllP_cons h4 (AllP_cons h5 (AllP_cons h6 AllP_nil))))))
theorem ro_n (full : Bool) (rows : List (List DV)) (i : Int) (k : Int) (i9 : Int) (h1 : ↑(List.length rows) = i9) (h2 : decide (i < i9) = false) :
    Ev C0 noO (Task.code 15 false (loopOf Try.prog 15 0) { σ := slots 28 [(0, AV.d (DV.sl 7 full rows)), (1, vi k), (5, AV.d (DV.v (Value.slice none 0 0))), (6, vi i)], h := { } }) (.code (X.exit 0) { σ := slots 28 [(5, AV.d (DV.v (Value.slice none 0 0)))], h := { } }) :=
  symM_ev (n := 60) (sc := [(site 15 9, Dec.int i9), (site 15 10, Dec.b false)]) (keep := [5]) (sc' := []) (by kernel_rfl) (AllP_cons h1 (AllP_cons h2 AllP_nil))
theorem rs_yyL (full : Bool) (rows : List (List DV)) (i : Int) (k : Int) (out : List (List DV)) (g : Nat) (i9 : Int) (e : Evt) (e2 : Evt) (i12 : Int) (x : X) (s : St) (h1 : ↑(List.length rows) = i9) (h2 : decide (i < i9) = true) (h3 : 0 ≤ i ∧ rows[Int.toNat i]? = some [di e.1, di e.2, db e.3, di e.an.1, di e.an.2, di e.an.3, di e.an.4]) (h4 : (e.th == k) = true) (h5 : 0 ≤ i ∧ rows[Int.toNat i]? = some [di e2.1, di e2.2, db e2.3, di e2.an.1, di e2.an.2, di e2.an.3, di e2.an.4]) (h6 : false = false ∧ g = g ∧ fitsP (List.length out) 1 56) (h7 : wr64 (i + 1) = i12) (h8 : Ev C0 noO (Task.code 15 false (loopOf Try.prog 15 0) { σ := slots 28 [(0, AV.d (DV.sl 7 full rows)), (1, vi k), (5, AV.st 7 (out ++ [[di e2.1, di e2.2, db e2.3, di e2.an.1, di e2.an.2, di e2.an.3, di e2.an.4]]) 122906 (g + 1 + 1)), (6, vi i12)], h := { toks := [(122906, g + 1 + 1)] } }) (Res.code x s)) :
    Ev C0 noO (Task.code 15 false (loopOf Try.prog 15 0) { σ := slots 28 [(0, AV.d (DV.sl 7 full rows)), (1, vi k), (5, AV.st 7 out (site 15 26) g), (6, vi i)], h := { toks := [(site 15 26, g)] } }) (.code (x) s) :=
  sym_ev 60 _ [(site 15 9, Dec.int i9), (site 15 10, Dec.b true), (site 15 15, Dec.row (Evt.row e)), (site 15 19, Dec.b true), (site 15 23, Dec.row (Evt.row e2)), (site 15 26, Dec.app false), (site 15 12, Dec.int i12), (site 15 8001, Dec.loop [0, 1, 5, 6] x s)] _ [] _ (by kernel_rfl) (AllP_cons h1 (AllP_cons h2 (AllP_cons h3 (AllP_cons h4 (AllP_cons h5 (AllP_cons h6 (AllP_cons h7 (AllP_cons h8 AllP_nil))))))))
theorem rs_ynL (full : Bool) (rows : List (List DV)) (i : Int) (k : Int) (out : List (List DV)) (g : Nat) (i9 : Int) (e : Evt) (i12 : Int) (x : X) (s : St) (h1 : ↑(List.length rows) = i9) (h2 : decide (i < i9) = true) (h3 : 0 ≤ i ∧ rows[Int.toNat i]? = some [di e.1, di e.2, db e.3, di e.an.1, di e.an.2, di e.an.3, di e.an.4]) (h4 : (e.th == k) = false) (h5 : wr64 (i + 1) = i12) (h6 : Ev C0 noO (Task.code 15 false (loopOf Try.prog 15 0) { σ := slots 28 [(0, AV.d (DV.sl 7 full rows)), (1, vi k), (5, AV.st 7 out 122906 g), (6, vi i12)], h := { toks := [(122906, g)] } }) (Res.code x s)) :
    Ev C0 noO (Task.code 15 false (loopOf Try.prog 15 0) { σ := slots 28 [(0, AV.d (DV.sl 7 full rows)), (1, vi k), (5, AV.st 7 out (site 15 26) g), (6, vi i)], h := { toks := [(site 15 26, g)] } }) (.code (x) s) :=
  sym_ev 60 _ [(site 15 9, Dec.int i9), (site 15 10, Dec.b true), (site 15 15, Dec.row (Evt.row e)), (site 15 19, Dec.b false), (site 15 12, Dec.int i12), (site 15 8001, Dec.loop [0, 1, 5, 6] x s)] _ [] _ (by kernel_rfl) (AllP_cons h1 (AllP_cons h2 (AllP_cons h3 (AllP_cons h4 (AllP_cons h5 (AllP_cons h6 AllP_nil))))))
theorem rs_n (full : Bool) (rows : List (List DV)) (i : Int) (k : Int) (out : List (List DV)) (g : Nat) (i9 : Int) (h1 : ↑(List.length rows) = i9) (h2 : decide (i < i9) = false) :
    Ev C0 noO (Task.code 15 false (loopOf Try.prog 15 0) { σ := slots 28 [(0, AV.d (DV.sl 7 full rows)), (1, vi k), (5, AV.st 7 out (site 15 26) g), (6, vi i)], h := { toks := [(site 15 26, g)] } }) (.code (X.exit 0) { σ := slots 28 [(5, AV.st 7 out 122906 g)], h := { toks := [(122906, g)] } }) :=
  symM_ev (n := 60) (sc := [(site 15 9, Dec.int i9), (site 15 10, Dec.b false)]) (keep := [5]) (sc' := []) (by kernel_rfl) (AllP_cons h1 (AllP_cons h2 AllP_nil))
theorem rocn_ (y : DV) (k : Int) (h1 : Ev C0 noO (Task.code 15 false (loopOf Try.prog 15 0) { σ := slots 28 [(0, AV.d y), (1, vi k), (5, AV.d (DV.v (Value.slice none 0 0))), (6, vi 0)], h := { } }) (Res.code (X.exit 0) { σ := slots 28 [(5, AV.d (DV.v (Value.slice none 0 0)))], h := { } })) :
    Ev C0 noO (Task.call 15 [AV.d y, vi k] { }) (.val (AV.d (DV.v (Value.slice none 0 0))) { }) :=
  sym_ev 60 _ [(site 15 8001, Dec.loop [0, 1, 5, 6] (X.exit 0) { σ := slots 28 [(5, AV.d (DV.v (Value.slice none 0 0)))], h := { } })] _ [] _ (by kernel_rfl) (AllP_cons h1 AllP_nil)
theorem rocs_ (y : DV) (k : Int) (out : List (List DV)) (g : Nat) (h1 : Ev C0 noO (Task.code 15 false (loopOf Try.prog 15 0) { σ := slots 28 [(0, AV.d y), (1, vi k), (5, AV.d (DV.v (Value.slice none 0 0))), (6, vi 0)], h := { } }) (Res.code (X.exit 0) { σ := slots 28 [(5, AV.st 7 out (site 15 26) g)], h := { toks := [(site 15 26, g)] } })) :
    Ev C0 noO (Task.call 15 [AV.d y, vi k] { }) (.val (AV.st 7 out 122906 g) { toks := [(122906, g)] }) :=
  sym_ev 60 _ [(site 15 8001, Dec.loop [0, 1, 5, 6] (X.exit 0) { σ := slots 28 [(5, AV.st 7 out (site 15 26) g)], h := { toks := [(site 15 26, g)] } })] _ [] _ (by kernel_rfl) (AllP_cons h1 AllP_nil)
theorem roA_ (k : Int) :
    Ev C0 noO (Task.code 15 false (loopOf Try.prog 15 0) { σ := slots 28 [(0, AV.d (DV.v (Value.slice none 0 0))), (1, vi k), (5, AV.d (DV.v (Value.slice none 0 0))), (6, vi 0)], h := { } }) (.code (X.exit 0) { σ := slots 28 [(5, AV.d (DV.v (Value.slice none 0 0)))], h := { } }) :=
  symM_ev (n := 60) (sc := []) (keep := [5]) (sc' := []) (by kernel_rfl) AllP_nil

end Go.Ev

namespace Go.Ev
open Go Go.RowKit Go.Proofs

def ofL (k : Int) (l : List Evt) : List Evt := l.filter fun e => e.th == k
def rsHd (y : DV) (k i : Int) (out : List (List DV)) (g : Nat) : St := { σ := slots 28 [(0, .d y), (1, vi k), (5, .st 7 out (site 15 26) g), (6, vi i)], h := { toks := [(site 15 26, g)] } }
def roHd (y : DV) (k i : Int) : St := { σ := slots 28 [(0, .d y), (1, vi k), (5, .d (.v (.slice none 0 0))), (6, vi i)], h := {} }
def rsOut (out : List (List DV)) (g : Nat) : St := { σ := slots 28 [(5, .st 7 out (site 15 26) g)], h := { toks := [(site 15 26, g)] } }
def roOut : St := { σ := slots 28 [(5, .d (.v (.slice none 0 0)))], h := {} }

theorem rs_loop (full : Bool) (k : Int) (all : List Evt) (hb : all.length < 2 ^ 40) : ∀ (rest pre : List Evt) (out : List (List DV)) (g : Nat), pre ++ rest = all → out.length ≤ pre.length →
    ∃ g', Ev C0 noO (.code 15 false (loopOf Try.prog 15 0) (rsHd (.sl 7 full (evRows all)) k (pre.length : Nat) out g)) (.code (.exit 0) (rsOut (out ++ evRows (ofL k rest)) g'))
  | [], pre, out, g, h, ho => ⟨g, by
    have e : out ++ evRows (ofL k []) = out := by simp [ofL, evRows]
    rw [e]
    exact rs_n full (evRows all) (pre.length : Nat) k out g (all.length : Nat) (by simp [evRows]) (dge (by subst h; simp))⟩
  | e :: rest, pre, out, g, h, ho => by
    have hlt := pre_lt h
    have hrow := row_at (g := Evt.row) h
    have hl : (((evRows all).length : Nat) : Int) = (all.length : Nat) := by simp [evRows]
    have ih := fun out g ho => rs_loop full k all hb rest (pre ++ [e]) out g (pre_snoc h) ho
    simp only [len_snoc] at ih
    cases hk : (e.th == k) with
    | true =>
      obtain ⟨g', ih⟩ := ih (out ++ [e.row]) (g + 1 + 1) (by simp; omega)
      refine ⟨g', ?_⟩
      have e1 : ofL k (e :: rest) = e :: ofL k rest := by simp [ofL, hk]
      rw [e1]
      have e2 : out ++ evRows (e :: ofL k rest) = (out ++ [e.row]) ++ evRows (ofL k rest) := by simp [evRows]
      rw [e2]
      exact rs_yyL full _ _ k out g _ e e _ _ _ hl (dlt hlt) hrow hk hrow ⟨rfl, rfl, by unfold fitsP; omega⟩ (wrap_succ (by omega)) ih
    | false =>
      obtain ⟨g', ih⟩ := ih out g (by omega)
      refine ⟨g', ?_⟩
      have e1 : ofL k (e :: rest) = ofL k rest := by simp [ofL, hk]
      rw [e1]
      exact rs_ynL full _ _ k out g _ e _ _ _ hl (dlt hlt) hrow hk (wrap_succ (by omega)) ih
theorem ro_loop (full : Bool) (k : Int) (all : List Evt) (hb : all.length < 2 ^ 40) : ∀ (rest pre : List Evt), pre ++ rest = all →
    (ofL k rest = [] ∧ Ev C0 noO (.code 15 false (loopOf Try.prog 15 0) (roHd (.sl 7 full (evRows all)) k (pre.length : Nat))) (.code (.exit 0) roOut)) ∨
    (ofL k rest ≠ [] ∧ ∃ g', Ev C0 noO (.code 15 false (loopOf Try.prog 15 0) (roHd (.sl 7 full (evRows all)) k (pre.length : Nat))) (.code (.exit 0) (rsOut (evRows (ofL k rest)) g')))
  | [], pre, h => .inl ⟨rfl, ro_n full (evRows all) (pre.length : Nat) k (all.length : Nat) (by simp [evRows]) (dge (by subst h; simp))⟩
  | e :: rest, pre, h => by
    have hlt := pre_lt h
    have hrow := row_at (g := Evt.row) h
    have hl : (((evRows all).length : Nat) : Int) = (all.length : Nat) := by simp [evRows]
    have ih := ro_loop full k all hb rest (pre ++ [e]) (pre_snoc h)
    simp only [len_snoc] at ih
    cases hk : (e.th == k) with
    | true =>
      right
      have e1 : ofL k (e :: rest) = e :: ofL k rest := by simp [ofL, hk]
      rw [e1]
      refine ⟨by simp, ?_⟩
      obtain ⟨g', h2⟩ := rs_loop full k all hb rest (pre ++ [e]) [e.row] 1 (pre_snoc h) (by simp)
      simp only [len_snoc] at h2
      exact ⟨g', ro_yyL full _ _ k _ e e _ _ _ hl (dlt hlt) hrow hk hrow (wrap_succ (by omega)) h2⟩
    | false =>
      have e1 : ofL k (e :: rest) = ofL k rest := by simp [ofL, hk]
      rw [e1]
      rcases ih with ⟨h1, h2⟩ | ⟨h1, g', h2⟩
      · exact .inl ⟨h1, ro_ynL full _ _ k _ e _ _ _ hl (dlt hlt) hrow hk (wrap_succ (by omega)) h2⟩
      · exact .inr ⟨h1, g', ro_ynL full _ _ k _ e _ _ _ hl (dlt hlt) hrow hk (wrap_succ (by omega)) h2⟩

def refOfSpec : Spec
  | [p, .one (.v (.int .i64 k))] => match evtsOf p with
    | some l => if l.length < 2 ^ 40 then some [madePV 7 (evRows (ofL k l))] else none
    | none => none
  | _ => none
theorem refOf_sat : Sat C0 15 refOfSpec := by
  refine sat_of_ev (O := noO) hP0 (fun _ _ h => h.elim) hm0 fun ps rs hs => ?_
  unfold refOfSpec at hs
  split at hs
  · rename_i p k
    split at hs
    · rename_i l hl
      split at hs
      · rename_i hb
        simp only [Option.some.injEq] at hs
        subst hs
        rcases evtsOf_cases hl with ⟨rfl, rfl⟩ | ⟨full, rfl⟩
        · exact ⟨_, _, _, rocn_ (.v (.slice none 0 0)) k (roA_ k), rfl⟩
        · rcases ro_loop full k l hb l [] rfl with ⟨h1, h2⟩ | ⟨h1, g', h2⟩
          · rw [h1]
            exact ⟨_, _, _, rocn_ (.sl 7 full (evRows l)) k h2, rfl⟩
          · have : madePV 7 (evRows (ofL k l)) = .one (.sl 7 false (evRows (ofL k l))) := by
              unfold madePV
              rw [if_neg (by simpa [evRows] using h1)]
            rw [this]
            exact ⟨_, _, _, rocs_ (.sl 7 full (evRows l)) k _ g' h2, rfl⟩
      · cases hs
    · cases hs
  · cases hs

end Go.Ev
