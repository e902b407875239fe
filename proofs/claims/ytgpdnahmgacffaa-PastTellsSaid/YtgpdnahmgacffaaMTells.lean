/- PastTells returns true for every input, and each argument reads afterwards as it read before. No conditions. -/
import Derived.Test.YtgpdnahmgacffaaMF
import Derived.Test.YtgpdnahmgacffaaMG
set_option linter.unusedVariables false
set_option linter.unusedSimpArgs false

namespace Go.Ev
open Go Go.RowKit Go.Proofs

theorem tl_y (f : Bool) (rows : List (List DV)) (a : Int × Int) (b : Int × Int) (b1 : Bool) (b2 : Bool) (c1 : Bool) (c2 : Bool) (fo : Bool) (r1 : List (List DV)) (r2 : List (List DV)) (r3 : List (List DV)) (r4 : List (List DV)) (i8 : Int) (h1 : ↑(List.length rows) = i8) (h2 : decide (i8 > 200) = true) :
    Ev C5 noO (Task.call 3 [AV.d (DV.sl 7 f rows), aggP a, aggP b] { }) (.val (vb true) { objs := [(24580, 1, [AO.cells [vi a.1, vi a.2] false]), (24581, 1, [AO.cells [vi b.1, vi b.2] false])] }) :=
  sym_ev 60 _ [(site 3 8, Dec.int i8), (site 3 9, Dec.b true)] _ [] _ (by kernel_rfl) (AllP_cons h1 (AllP_cons h2 AllP_nil))
theorem tl_nt1t1t1 (f : Bool) (rows : List (List DV)) (a : Int × Int) (b : Int × Int) (b1 : Bool) (b2 : Bool) (c1 : Bool) (c2 : Bool) (fo : Bool) (r1 : List (List DV)) (r2 : List (List DV)) (r3 : List (List DV)) (r4 : List (List DV)) (i8 : Int) (h1 : ↑(List.length rows) = i8) (h2 : decide (i8 > 200) = false) (h3 : rightSpec [PV.one (DV.sl 7 f rows)] = some [PV.one (db b1)]) (h4 : refRightSpec [PV.one (DV.sl 7 f rows)] = some [PV.one (db b2)]) (h5 : (b1 == b2) = true) (h6 : ofSpec [PV.one (DV.sl 7 f rows), PV.one (di a.1)] = some [PV.one (DV.sl 7 fo r1)]) (h7 : refOfSpec [PV.one (DV.sl 7 f rows), PV.one (di a.1)] = some [PV.one (DV.v (Value.slice none 0 0))]) (h8 : sameSpec [PV.one (DV.sl 7 fo r1), PV.one (DV.v (Value.slice none 0 0))] = some [PV.one (db true)]) (h9 : spansSpecP [PV.one (DV.sl 7 f rows)] = some [PV.one (DV.v (Value.slice none 0 0))]) (h10 : refSpansSpec [PV.one (DV.sl 7 f rows)] = some [PV.one (DV.v (Value.slice none 0 0))]) (h11 : beforeSpec [PV.one (DV.sl 7 f rows), PV.agg [di a.1, di a.2], PV.agg [di b.1, di b.2]] = some [PV.one (db c1)]) (h12 : refBeforeSpec [PV.one (DV.sl 7 f rows), PV.agg [di a.1, di a.2], PV.agg [di b.1, di b.2]] = some [PV.one (db c2)]) (h13 : (c1 == c2) = true) :
    Ev C5 noO (Task.call 3 [AV.d (DV.sl 7 f rows), aggP a, aggP b] { }) (.val (vb true) { objs := [(24580, 1, [AO.cells [vi a.1, vi a.2] false]), (24581, 1, [AO.cells [vi b.1, vi b.2] false])] }) :=
  sym_ev 60 _ [(site 3 8, Dec.int i8), (site 3 9, Dec.b false), (site 3 14, Dec.prim [pbool b1]), (site 3 16, Dec.prim [pbool b2]), (site 3 17, Dec.b true), (site 3 23, Dec.prim [PV.one (DV.sl 7 fo r1)]), (site 3 27, Dec.prim [nilPV]), (site 3 28, Dec.prim [pbool true]), (site 3 32, Dec.prim [nilPV]), (site 3 34, Dec.prim [nilPV]), (site 3 41, Dec.prim [pbool c1]), (site 3 45, Dec.prim [pbool c2]), (site 3 46, Dec.b true)] _ [] _ (by kernel_rfl) (AllP_cons h1 (AllP_cons h2 (AllP_cons h3 (AllP_cons h4 (AllP_cons h5 (AllP_cons h6 (AllP_cons h7 (AllP_cons h8 (AllP_cons h9 (AllP_cons h10 (AllP_cons h11 (AllP_cons h12 (AllP_cons h13 AllP_nil)))))))))))))
theorem tl_nt1t1t2 (f : Bool) (rows : List (List DV)) (a : Int × Int) (b : Int × Int) (b1 : Bool) (b2 : Bool) (c1 : Bool) (c2 : Bool) (fo : Bool) (r1 : List (List DV)) (r2 : List (List DV)) (r3 : List (List DV)) (r4 : List (List DV)) (i8 : Int) (h1 : ↑(List.length rows) = i8) (h2 : decide (i8 > 200) = false) (h3 : rightSpec [PV.one (DV.sl 7 f rows)] = some [PV.one (db b1)]) (h4 : refRightSpec [PV.one (DV.sl 7 f rows)] = some [PV.one (db b2)]) (h5 : (b1 == b2) = true) (h6 : ofSpec [PV.one (DV.sl 7 f rows), PV.one (di a.1)] = some [PV.one (DV.sl 7 fo r1)]) (h7 : refOfSpec [PV.one (DV.sl 7 f rows), PV.one (di a.1)] = some [PV.one (DV.v (Value.slice none 0 0))]) (h8 : sameSpec [PV.one (DV.sl 7 fo r1), PV.one (DV.v (Value.slice none 0 0))] = some [PV.one (db true)]) (h9 : spansSpecP [PV.one (DV.sl 7 f rows)] = some [PV.one (DV.v (Value.slice none 0 0))]) (h10 : refSpansSpec [PV.one (DV.sl 7 f rows)] = some [PV.one (DV.sl 4 false r4)]) (h11 : spansSpec [PV.one (DV.v (Value.slice none 0 0)), PV.one (DV.sl 4 false r4)] = some [PV.one (db true)]) (h12 : beforeSpec [PV.one (DV.sl 7 f rows), PV.agg [di a.1, di a.2], PV.agg [di b.1, di b.2]] = some [PV.one (db c1)]) (h13 : refBeforeSpec [PV.one (DV.sl 7 f rows), PV.agg [di a.1, di a.2], PV.agg [di b.1, di b.2]] = some [PV.one (db c2)]) (h14 : (c1 == c2) = true) :
    Ev C5 noO (Task.call 3 [AV.d (DV.sl 7 f rows), aggP a, aggP b] { }) (.val (vb true) { objs := [(24580, 1, [AO.cells [vi a.1, vi a.2] false]), (24581, 1, [AO.cells [vi b.1, vi b.2] false])] }) :=
  sym_ev 60 _ [(site 3 8, Dec.int i8), (site 3 9, Dec.b false), (site 3 14, Dec.prim [pbool b1]), (site 3 16, Dec.prim [pbool b2]), (site 3 17, Dec.b true), (site 3 23, Dec.prim [PV.one (DV.sl 7 fo r1)]), (site 3 27, Dec.prim [nilPV]), (site 3 28, Dec.prim [pbool true]), (site 3 32, Dec.prim [nilPV]), (site 3 34, Dec.prim [PV.one (DV.sl 4 false r4)]), (site 3 35, Dec.prim [pbool true]), (site 3 41, Dec.prim [pbool c1]), (site 3 45, Dec.prim [pbool c2]), (site 3 46, Dec.b true)] _ [] _ (by kernel_rfl) (AllP_cons h1 (AllP_cons h2 (AllP_cons h3 (AllP_cons h4 (AllP_cons h5 (AllP_cons h6 (AllP_cons h7 (AllP_cons h8 (AllP_cons h9 (AllP_cons h10 (AllP_cons h11 (AllP_cons h12 (AllP_cons h13 (AllP_cons h14 AllP_nil))))))))))))))
theorem tl_nt1t2t1 (f : Bool) (rows : List (List DV)) (a : Int × Int) (b : Int × Int) (b1 : Bool) (b2 : Bool) (c1 : Bool) (c2 : Bool) (fo : Bool) (r1 : List (List DV)) (r2 : List (List DV)) (r3 : List (List DV)) (r4 : List (List DV)) (i8 : Int) (h1 : ↑(List.length rows) = i8) (h2 : decide (i8 > 200) = false) (h3 : rightSpec [PV.one (DV.sl 7 f rows)] = some [PV.one (db b1)]) (h4 : refRightSpec [PV.one (DV.sl 7 f rows)] = some [PV.one (db b2)]) (h5 : (b1 == b2) = true) (h6 : ofSpec [PV.one (DV.sl 7 f rows), PV.one (di a.1)] = some [PV.one (DV.sl 7 fo r1)]) (h7 : refOfSpec [PV.one (DV.sl 7 f rows), PV.one (di a.1)] = some [PV.one (DV.v (Value.slice none 0 0))]) (h8 : sameSpec [PV.one (DV.sl 7 fo r1), PV.one (DV.v (Value.slice none 0 0))] = some [PV.one (db true)]) (h9 : spansSpecP [PV.one (DV.sl 7 f rows)] = some [PV.one (DV.sl 4 false r3)]) (h10 : refSpansSpec [PV.one (DV.sl 7 f rows)] = some [PV.one (DV.v (Value.slice none 0 0))]) (h11 : spansSpec [PV.one (DV.sl 4 false r3), PV.one (DV.v (Value.slice none 0 0))] = some [PV.one (db true)]) (h12 : beforeSpec [PV.one (DV.sl 7 f rows), PV.agg [di a.1, di a.2], PV.agg [di b.1, di b.2]] = some [PV.one (db c1)]) (h13 : refBeforeSpec [PV.one (DV.sl 7 f rows), PV.agg [di a.1, di a.2], PV.agg [di b.1, di b.2]] = some [PV.one (db c2)]) (h14 : (c1 == c2) = true) :
    Ev C5 noO (Task.call 3 [AV.d (DV.sl 7 f rows), aggP a, aggP b] { }) (.val (vb true) { objs := [(24580, 1, [AO.cells [vi a.1, vi a.2] false]), (24581, 1, [AO.cells [vi b.1, vi b.2] false])] }) :=
  sym_ev 60 _ [(site 3 8, Dec.int i8), (site 3 9, Dec.b false), (site 3 14, Dec.prim [pbool b1]), (site 3 16, Dec.prim [pbool b2]), (site 3 17, Dec.b true), (site 3 23, Dec.prim [PV.one (DV.sl 7 fo r1)]), (site 3 27, Dec.prim [nilPV]), (site 3 28, Dec.prim [pbool true]), (site 3 32, Dec.prim [PV.one (DV.sl 4 false r3)]), (site 3 34, Dec.prim [nilPV]), (site 3 35, Dec.prim [pbool true]), (site 3 41, Dec.prim [pbool c1]), (site 3 45, Dec.prim [pbool c2]), (site 3 46, Dec.b true)] _ [] _ (by kernel_rfl) (AllP_cons h1 (AllP_cons h2 (AllP_cons h3 (AllP_cons h4 (AllP_cons h5 (AllP_cons h6 (AllP_cons h7 (AllP_cons h8 (AllP_cons h9 (AllP_cons h10 (AllP_cons h11 (AllP_cons h12 (AllP_cons h13 (AllP_cons h14 AllP_nil))))))))))))))
theorem tl_nt1t2t2 (f : Bool) (rows : List (List DV)) (a : Int × Int) (b : Int × Int) (b1 : Bool) (b2 : Bool) (c1 : Bool) (c2 : Bool) (fo : Bool) (r1 : List (List DV)) (r2 : List (List DV)) (r3 : List (List DV)) (r4 : List (List DV)) (i8 : Int) (h1 : ↑(List.length rows) = i8) (h2 : decide (i8 > 200) = false) (h3 : rightSpec [PV.one (DV.sl 7 f rows)] = some [PV.one (db b1)]) (h4 : refRightSpec [PV.one (DV.sl 7 f rows)] = some [PV.one (db b2)]) (h5 : (b1 == b2) = true) (h6 : ofSpec [PV.one (DV.sl 7 f rows), PV.one (di a.1)] = some [PV.one (DV.sl 7 fo r1)]) (h7 : refOfSpec [PV.one (DV.sl 7 f rows), PV.one (di a.1)] = some [PV.one (DV.v (Value.slice none 0 0))]) (h8 : sameSpec [PV.one (DV.sl 7 fo r1), PV.one (DV.v (Value.slice none 0 0))] = some [PV.one (db true)]) (h9 : spansSpecP [PV.one (DV.sl 7 f rows)] = some [PV.one (DV.sl 4 false r3)]) (h10 : refSpansSpec [PV.one (DV.sl 7 f rows)] = some [PV.one (DV.sl 4 false r4)]) (h11 : spansSpec [PV.one (DV.sl 4 false r3), PV.one (DV.sl 4 false r4)] = some [PV.one (db true)]) (h12 : beforeSpec [PV.one (DV.sl 7 f rows), PV.agg [di a.1, di a.2], PV.agg [di b.1, di b.2]] = some [PV.one (db c1)]) (h13 : refBeforeSpec [PV.one (DV.sl 7 f rows), PV.agg [di a.1, di a.2], PV.agg [di b.1, di b.2]] = some [PV.one (db c2)]) (h14 : (c1 == c2) = true) :
    Ev C5 noO (Task.call 3 [AV.d (DV.sl 7 f rows), aggP a, aggP b] { }) (.val (vb true) { objs := [(24580, 1, [AO.cells [vi a.1, vi a.2] false]), (24581, 1, [AO.cells [vi b.1, vi b.2] false])] }) :=
  sym_ev 60 _ [(site 3 8, Dec.int i8), (site 3 9, Dec.b false), (site 3 14, Dec.prim [pbool b1]), (site 3 16, Dec.prim [pbool b2]), (site 3 17, Dec.b true), (site 3 23, Dec.prim [PV.one (DV.sl 7 fo r1)]), (site 3 27, Dec.prim [nilPV]), (site 3 28, Dec.prim [pbool true]), (site 3 32, Dec.prim [PV.one (DV.sl 4 false r3)]), (site 3 34, Dec.prim [PV.one (DV.sl 4 false r4)]), (site 3 35, Dec.prim [pbool true]), (site 3 41, Dec.prim [pbool c1]), (site 3 45, Dec.prim [pbool c2]), (site 3 46, Dec.b true)] _ [] _ (by kernel_rfl) (AllP_cons h1 (AllP_cons h2 (AllP_cons h3 (AllP_cons h4 (AllP_cons h5 (AllP_cons h6 (AllP_cons h7 (AllP_cons h8 (AllP_cons h9 (AllP_cons h10 (AllP_cons h11 (AllP_cons h12 (AllP_cons h13 (AllP_cons h14 AllP_nil))))))))))))))
theorem tl_nt2t1t1 (f : Bool) (rows : List (List DV)) (a : Int × Int) (b : Int × Int) (b1 : Bool) (b2 : Bool) (c1 : Bool) (c2 : Bool) (fo : Bool) (r1 : List (List DV)) (r2 : List (List DV)) (r3 : List (List DV)) (r4 : List (List DV)) (i8 : Int) (h1 : ↑(List.length rows) = i8) (h2 : decide (i8 > 200) = false) (h3 : rightSpec [PV.one (DV.sl 7 f rows)] = some [PV.one (db b1)]) (h4 : refRightSpec [PV.one (DV.sl 7 f rows)] = some [PV.one (db b2)]) (h5 : (b1 == b2) = true) (h6 : ofSpec [PV.one (DV.sl 7 f rows), PV.one (di a.1)] = some [PV.one (DV.sl 7 fo r1)]) (h7 : refOfSpec [PV.one (DV.sl 7 f rows), PV.one (di a.1)] = some [PV.one (DV.sl 7 false r2)]) (h8 : sameSpec [PV.one (DV.sl 7 fo r1), PV.one (DV.sl 7 false r2)] = some [PV.one (db true)]) (h9 : spansSpecP [PV.one (DV.sl 7 f rows)] = some [PV.one (DV.v (Value.slice none 0 0))]) (h10 : refSpansSpec [PV.one (DV.sl 7 f rows)] = some [PV.one (DV.v (Value.slice none 0 0))]) (h11 : beforeSpec [PV.one (DV.sl 7 f rows), PV.agg [di a.1, di a.2], PV.agg [di b.1, di b.2]] = some [PV.one (db c1)]) (h12 : refBeforeSpec [PV.one (DV.sl 7 f rows), PV.agg [di a.1, di a.2], PV.agg [di b.1, di b.2]] = some [PV.one (db c2)]) (h13 : (c1 == c2) = true) :
    Ev C5 noO (Task.call 3 [AV.d (DV.sl 7 f rows), aggP a, aggP b] { }) (.val (vb true) { objs := [(24580, 1, [AO.cells [vi a.1, vi a.2] false]), (24581, 1, [AO.cells [vi b.1, vi b.2] false])] }) :=
  sym_ev 60 _ [(site 3 8, Dec.int i8), (site 3 9, Dec.b false), (site 3 14, Dec.prim [pbool b1]), (site 3 16, Dec.prim [pbool b2]), (site 3 17, Dec.b true), (site 3 23, Dec.prim [PV.one (DV.sl 7 fo r1)]), (site 3 27, Dec.prim [PV.one (DV.sl 7 false r2)]), (site 3 28, Dec.prim [pbool true]), (site 3 32, Dec.prim [nilPV]), (site 3 34, Dec.prim [nilPV]), (site 3 41, Dec.prim [pbool c1]), (site 3 45, Dec.prim [pbool c2]), (site 3 46, Dec.b true)] _ [] _ (by kernel_rfl) (AllP_cons h1 (AllP_cons h2 (AllP_cons h3 (AllP_cons h4 (AllP_cons h5 (AllP_cons h6 (AllP_cons h7 (AllP_cons h8 (AllP_cons h9 (AllP_cons h10 (AllP_cons h11 (AllP_cons h12 (AllP_cons h13 AllP_nil)))))))))))))
theorem tl_nt2t1t2 (f : Bool) (rows : List (List DV)) (a : Int × Int) (b : Int × Int) (b1 : Bool) (b2 : Bool) (c1 : Bool) (c2 : Bool) (fo : Bool) (r1 : List (List DV)) (r2 : List (List DV)) (r3 : List (List DV)) (r4 : List (List DV)) (i8 : Int) (h1 : ↑(List.length rows) = i8) (h2 : decide (i8 > 200) = false) (h3 : rightSpec [PV.one (DV.sl 7 f rows)] = some [PV.one (db b1)]) (h4 : refRightSpec [PV.one (DV.sl 7 f rows)] = some [PV.one (db b2)]) (h5 : (b1 == b2) = true) (h6 : ofSpec [PV.one (DV.sl 7 f rows), PV.one (di a.1)] = some [PV.one (DV.sl 7 fo r1)]) (h7 : refOfSpec [PV.one (DV.sl 7 f rows), PV.one (di a.1)] = some [PV.one (DV.sl 7 false r2)]) (h8 : sameSpec [PV.one (DV.sl 7 fo r1), PV.one (DV.sl 7 false r2)] = some [PV.one (db true)]) (h9 : spansSpecP [PV.one (DV.sl 7 f rows)] = some [PV.one (DV.v (Value.slice none 0 0))]) (h10 : refSpansSpec [PV.one (DV.sl 7 f rows)] = some [PV.one (DV.sl 4 false r4)]) (h11 : spansSpec [PV.one (DV.v (Value.slice none 0 0)), PV.one (DV.sl 4 false r4)] = some [PV.one (db true)]) (h12 : beforeSpec [PV.one (DV.sl 7 f rows), PV.agg [di a.1, di a.2], PV.agg [di b.1, di b.2]] = some [PV.one (db c1)]) (h13 : refBeforeSpec [PV.one (DV.sl 7 f rows), PV.agg [di a.1, di a.2], PV.agg [di b.1, di b.2]] = some [PV.one (db c2)]) (h14 : (c1 == c2) = true) :
    Ev C5 noO (Task.call 3 [AV.d (DV.sl 7 f rows), aggP a, aggP b] { }) (.val (vb true) { objs := [(24580, 1, [AO.cells [vi a.1, vi a.2] false]), (24581, 1, [AO.cells [vi b.1, vi b.2] false])] }) :=
  sym_ev 60 _ [(site 3 8, Dec.int i8), (site 3 9, Dec.b false), (site 3 14, Dec.prim [pbool b1]), (site 3 16, Dec.prim [pbool b2]), (site 3 17, Dec.b true), (site 3 23, Dec.prim [PV.one (DV.sl 7 fo r1)]), (site 3 27, Dec.prim [PV.one (DV.sl 7 false r2)]), (site 3 28, Dec.prim [pbool true]), (site 3 32, Dec.prim [nilPV]), (site 3 34, Dec.prim [PV.one (DV.sl 4 false r4)]), (site 3 35, Dec.prim [pbool true]), (site 3 41, Dec.prim [pbool c1]), (site 3 45, Dec.prim [pbool c2]), (site 3 46, Dec.b true)] _ [] _ (by kernel_rfl) (AllP_cons h1 (AllP_cons h2 (AllP_cons h3 (AllP_cons h4 (AllP_cons h5 (AllP_cons h6 (AllP_cons h7 (AllP_cons h8 (AllP_cons h9 (AllP_cons h10 (AllP_cons h11 (AllP_cons h12 (AllP_cons h13 (AllP_cons h14 AllP_nil))))))))))))))
theorem tl_nt2t2t1 (f : Bool) (rows : List (List DV)) (a : Int × Int) (b : Int × Int) (b1 : Bool) (b2 : Bool) (c1 : Bool) (c2 : Bool) (fo : Bool) (r1 : List (List DV)) (r2 : List (List DV)) (r3 : List (List DV)) (r4 : List (List DV)) (i8 : Int) (h1 : ↑(List.length rows) = i8) (h2 : decide (i8 > 200) = false) (h3 : rightSpec [PV.one (DV.sl 7 f rows)] = some [PV.one (db b1)]) (h4 : refRightSpec [PV.one (DV.sl 7 f rows)] = some [PV.one (db b2)]) (h5 : (b1 == b2) = true) (h6 : ofSpec [PV.one (DV.sl 7 f rows), PV.one (di a.1)] = some [PV.one (DV.sl 7 fo r1)]) (h7 : refOfSpec [PV.one (DV.sl 7 f rows), PV.one (di a.1)] = some [PV.one (DV.sl 7 false r2)]) (h8 : sameSpec [PV.one (DV.sl 7 fo r1), PV.one (DV.sl 7 false r2)] = some [PV.one (db true)]) (h9 : spansSpecP [PV.one (DV.sl 7 f rows)] = some [PV.one (DV.sl 4 false r3)]) (h10 : refSpansSpec [PV.one (DV.sl 7 f rows)] = some [PV.one (DV.v (Value.slice none 0 0))]) (h11 : spansSpec [PV.one (DV.sl 4 false r3), PV.one (DV.v (Value.slice none 0 0))] = some [PV.one (db true)]) (h12 : beforeSpec [PV.one (DV.sl 7 f rows), PV.agg [di a.1, di a.2], PV.agg [di b.1, di b.2]] = some [PV.one (db c1)]) (h13 : refBeforeSpec [PV.one (DV.sl 7 f rows), PV.agg [di a.1, di a.2], PV.agg [di b.1, di b.2]] = some [PV.one (db c2)]) (h14 : (c1 == c2) = true) :
    Ev C5 noO (Task.call 3 [AV.d (DV.sl 7 f rows), aggP a, aggP b] { }) (.val (vb true) { objs := [(24580, 1, [AO.cells [vi a.1, vi a.2] false]), (24581, 1, [AO.cells [vi b.1, vi b.2] false])] }) :=
  sym_ev 60 _ [(site 3 8, Dec.int i8), (site 3 9, Dec.b false), (site 3 14, Dec.prim [pbool b1]), (site 3 16, Dec.prim [pbool b2]), (site 3 17, Dec.b true), (site 3 23, Dec.prim [PV.one (DV.sl 7 fo r1)]), (site 3 27, Dec.prim [PV.one (DV.sl 7 false r2)]), (site 3 28, Dec.prim [pbool true]), (site 3 32, Dec.prim [PV.one (DV.sl 4 false r3)]), (site 3 34, Dec.prim [nilPV]), (site 3 35, Dec.prim [pbool true]), (site 3 41, Dec.prim [pbool c1]), (site 3 45, Dec.prim [pbool c2]), (site 3 46, Dec.b true)] _ [] _ (by kernel_rfl) (AllP_cons h1 (AllP_cons h2 (AllP_cons h3 (AllP_cons h4 (AllP_cons h5 (AllP_cons h6 (AllP_cons h7 (AllP_cons h8 (AllP_cons h9 (AllP_cons h10 (AllP_cons h11 (AllP_cons h12 (AllP_cons h13 (AllP_cons h14 AllP_nil))))))))))))))
theorem tl_nt2t2t2 (f : Bool) (rows : List (List DV)) (a : Int × Int) (b : Int × Int) (b1 : Bool) (b2 : Bool) (c1 : Bool) (c2 : Bool) (fo : Bool) (r1 : List (List DV)) (r2 : List (List DV)) (r3 : List (List DV)) (r4 : List (List DV)) (i8 : Int) (h1 : ↑(List.length rows) = i8) (h2 : decide (i8 > 200) = false) (h3 : rightSpec [PV.one (DV.sl 7 f rows)] = some [PV.one (db b1)]) (h4 : refRightSpec [PV.one (DV.sl 7 f rows)] = some [PV.one (db b2)]) (h5 : (b1 == b2) = true) (h6 : ofSpec [PV.one (DV.sl 7 f rows), PV.one (di a.1)] = some [PV.one (DV.sl 7 fo r1)]) (h7 : refOfSpec [PV.one (DV.sl 7 f rows), PV.one (di a.1)] = some [PV.one (DV.sl 7 false r2)]) (h8 : sameSpec [PV.one (DV.sl 7 fo r1), PV.one (DV.sl 7 false r2)] = some [PV.one (db true)]) (h9 : spansSpecP [PV.one (DV.sl 7 f rows)] = some [PV.one (DV.sl 4 false r3)]) (h10 : refSpansSpec [PV.one (DV.sl 7 f rows)] = some [PV.one (DV.sl 4 false r4)]) (h11 : spansSpec [PV.one (DV.sl 4 false r3), PV.one (DV.sl 4 false r4)] = some [PV.one (db true)]) (h12 : beforeSpec [PV.one (DV.sl 7 f rows), PV.agg [di a.1, di a.2], PV.agg [di b.1, di b.2]] = some [PV.one (db c1)]) (h13 : refBeforeSpec [PV.one (DV.sl 7 f rows), PV.agg [di a.1, di a.2], PV.agg [di b.1, di b.2]] = some [PV.one (db c2)]) (h14 : (c1 == c2) = true) :
    Ev C5 noO (Task.call 3 [AV.d (DV.sl 7 f rows), aggP a, aggP b] { }) (.val (vb true) { objs := [(24580, 1, [AO.cells [vi a.1, vi a.2] false]), (24581, 1, [AO.cells [vi b.1, vi b.2] false])] }) :=
  sym_ev 60 _ [(site 3 8, Dec.int i8), (site 3 9, Dec.b false), (site 3 14, Dec.prim [pbool b1]), (site 3 16, Dec.prim [pbool b2]), (site 3 17, Dec.b true), (site 3 23, Dec.prim [PV.one (DV.sl 7 fo r1)]), (site 3 27, Dec.prim [PV.one (DV.sl 7 false r2)]), (site 3 28, Dec.prim [pbool true]), (site 3 32, Dec.prim [PV.one (DV.sl 4 false r3)]), (site 3 34, Dec.prim [PV.one (DV.sl 4 false r4)]), (site 3 35, Dec.prim [pbool true]), (site 3 41, Dec.prim [pbool c1]), (site 3 45, Dec.prim [pbool c2]), (site 3 46, Dec.b true)] _ [] _ (by kernel_rfl) (AllP_cons h1 (AllP_cons h2 (AllP_cons h3 (AllP_cons h4 (AllP_cons h5 (AllP_cons h6 (AllP_cons h7 (AllP_cons h8 (AllP_cons h9 (AllP_cons h10 (AllP_cons h11 (AllP_cons h12 (AllP_cons h13 (AllP_cons h14 AllP_nil))))))))))))))
theorem tlN_ (a : Int × Int) (b : Int × Int) :
    Ev C5 noO (Task.call 3 [AV.d (DV.v (Value.slice none 0 0)), aggP a, aggP b] { }) (.val (vb true) { objs := [(24580, 1, [AO.cells [vi a.1, vi a.2] false]), (24581, 1, [AO.cells [vi b.1, vi b.2] false])] }) :=
  sym_ev 60 _ [] _ [] _ (by kernel_rfl) AllP_nil

end Go.Ev

namespace Go.Ev
open Go Go.RowKit Go.Proofs

theorem same_at {p q : PV} {a : List Evt} (hp : evtsOf p = some a) (hq : evtsOf q = some a) (hb : a.length < 2 ^ 40) : sameSpec [p, q] = some [.one (db true)] := by
  simp only [sameSpec, hp, hq, hb, if_true, decide_true]; rfl
theorem spansS_at {p q : PV} {a : List S4} (hp : spansOf p = some a) (hq : spansOf q = some a) (hb : a.length < 2 ^ 40) : spansSpec [p, q] = some [.one (db true)] := by
  simp only [spansSpec, hp, hq, hb, if_true, decide_true]; rfl
theorem spansOf_sl (f : Bool) (l : List S4) : spansOf (.one (.sl 4 f (rowsS l))) = some l := by simp [spansOf, sliceOf, rowsS, allSome_map (f := s4I) (g := rowS) (fun _ => rfl)]
theorem spansL_len (m : MapE) : ∀ (l : List Evt) (i : Nat), (spansL m i l).length ≤ l.length
  | [], i => Nat.le_refl _
  | e :: l, i => by
    unfold spansL
    have := spansL_len m l (i + 1)
    split <;> simp <;> omega
theorem spansI_len (l : List Evt) : (spansI l).length ≤ l.length := by
  unfold spansI
  split
  · exact spansL_len _ l 0
  · simp

def tellsSpec : Spec
  | [p, q, r] => match evtsOf p, pairOf q, pairOf r with
    | some l, some a, some b => some [pbool true]
    | _, _, _ => none
  | _ => none
theorem tells_sat : Sat C5 3 tellsSpec := by
  refine sat_of_ev (O := noO) hP5 (fun _ _ h => h.elim) hm0 fun ps rs hs => ?_
  unfold tellsSpec at hs
  split at hs
  · split at hs
    · rename_i p q r l a b hl ha hc
      simp only [Option.some.injEq] at hs
      subst hs
      rw [pairOf_eq ha, pairOf_eq hc]
      rcases evtsOf_cases hl with ⟨rfl, rfl⟩ | ⟨f, rfl⟩
      · exact ⟨_, _, _, tlN_ a b, rfl⟩
      · have hlen : (((evRows l).length : Nat) : Int) = (l.length : Nat) := by simp [evRows]
        by_cases hb : l.length > 200
        · exact ⟨_, _, _, tl_y f (evRows l) a b true true true true true [] [] [] [] _ hlen (by simp; omega), rfl⟩
        · have hb' : l.length < 2 ^ 40 := by omega
          have h2 : decide (((l.length : Nat) : Int) > 200) = false := by simp; omega
          have h3 := right_at (f := f) hb' (rfl : rightB l = rightB l)
          have h4 := refRight_at (f := f) hb' (right_eq l).symm
          have e7 : allSome evtI (evRows l) = some l := allSome_map evtI_row l
          have h6 : ofSpec [.one (.sl 7 f (evRows l)), .one (di a.1)] = some [if l.isEmpty then .one (.sl 7 true []) else .one (.sl 7 false (evRows (ofL a.1 l)))] := by
            simp only [ofSpec, di, e7, hb', if_true]
          have h7 : refOfSpec [.one (.sl 7 f (evRows l)), .one (di a.1)] = some [madePV 7 (evRows (ofL a.1 l))] := by
            simp only [refOfSpec, di, evtsOf_sl, hb', if_true]
          have hofl : (ofL a.1 l).length < 2 ^ 40 := by
            have := List.length_filter_le (fun e : Evt => e.th == a.1) l
            unfold ofL; omega
          obtain ⟨fo, r1, h6', h6''⟩ : ∃ fo r1, (if l.isEmpty then PV.one (.sl 7 true []) else .one (.sl 7 false (evRows (ofL a.1 l)))) = .one (.sl 7 fo r1) ∧ evtsOf (.one (.sl 7 fo r1)) = some (ofL a.1 l) := by
            cases l with
            | nil => exact ⟨true, [], rfl, rfl⟩
            | cons e l => exact ⟨false, _, rfl, evtsOf_sl _ _⟩
          rw [h6'] at h6
          have h9 : spansSpecP [.one (.sl 7 f (evRows l))] = some [madePV 4 (rowsS (spansI l))] := by simp only [spansSpecP, evtsOf_sl, hb', if_true]
          have h10 : refSpansSpec [.one (.sl 7 f (evRows l))] = some [madePV 4 (rowsS (spansI l))] := by simp only [refSpansSpec, evtsOf_sl, hb', if_true, spans_eq]
          have hsl : (spansI l).length < 2 ^ 40 := by have := spansI_len l; omega
          have hpa : pairOf (.agg [di a.1, di a.2]) = some a := rfl
          have hpb : pairOf (.agg [di b.1, di b.2]) = some b := rfl
          have h12 : beforeSpec [.one (.sl 7 f (evRows l)), .agg [di a.1, di a.2], .agg [di b.1, di b.2]] = some [.one (db (beforeB l a b))] := by simp only [beforeSpec, evtsOf_sl, hpa, hpb, hb', if_true]; rfl
          have h13 : refBeforeSpec [.one (.sl 7 f (evRows l)), .agg [di a.1, di a.2], .agg [di b.1, di b.2]] = some [.one (db (beforeB l a b))] := by simp only [refBeforeSpec, evtsOf_sl, hpa, hpb, hb', if_true, before_eq]; rfl
          have h5 : (rightB l == rightB l) = true := by simp
          have h14 : (beforeB l a b == beforeB l a b) = true := by simp
          by_cases ho : ofL a.1 l = []
          · have e1 : madePV 7 (evRows (ofL a.1 l)) = nilPV := by rw [ho]; rfl
            rw [e1] at h7
            have h8 : sameSpec [.one (.sl 7 fo r1), nilPV] = some [.one (db true)] := same_at h6'' (by rw [ho]; rfl) hofl
            by_cases hsp : spansI l = []
            · have e2 : madePV 4 (rowsS (spansI l)) = nilPV := by rw [hsp]; rfl
              rw [e2] at h9 h10
              exact ⟨_, _, _, tl_nt1t1t1 f (evRows l) a b _ _ _ _ fo r1 [] [] [] _ hlen h2 h3 h4 h5 h6 h7 h8 h9 h10 h12 h13 h14, rfl⟩
            · rw [made_ne hsp] at h9 h10
              exact ⟨_, _, _, tl_nt1t2t2 f (evRows l) a b _ _ _ _ fo r1 [] _ _ _ hlen h2 h3 h4 h5 h6 h7 h8 h9 h10 (spansS_at (spansOf_sl _ _) (spansOf_sl _ _) hsl) h12 h13 h14, rfl⟩
          · have e1 : madePV 7 (evRows (ofL a.1 l)) = .one (.sl 7 false (evRows (ofL a.1 l))) := by
              unfold madePV
              rw [if_neg (by simpa [evRows] using ho)]
            rw [e1] at h7
            have h8 : sameSpec [.one (.sl 7 fo r1), .one (.sl 7 false (evRows (ofL a.1 l)))] = some [.one (db true)] := same_at h6'' (evtsOf_sl _ _) hofl
            by_cases hsp : spansI l = []
            · have e2 : madePV 4 (rowsS (spansI l)) = nilPV := by rw [hsp]; rfl
              rw [e2] at h9 h10
              exact ⟨_, _, _, tl_nt2t1t1 f (evRows l) a b _ _ _ _ fo r1 _ [] [] _ hlen h2 h3 h4 h5 h6 h7 h8 h9 h10 h12 h13 h14, rfl⟩
            · rw [made_ne hsp] at h9 h10
              exact ⟨_, _, _, tl_nt2t2t2 f (evRows l) a b _ _ _ _ fo r1 _ _ _ _ hlen h2 h3 h4 h5 h6 h7 h8 h9 h10 (spansS_at (spansOf_sl _ _) (spansOf_sl _ _) hsl) h12 h13 h14, rfl⟩
    · cases hs
  · cases hs

end Go.Ev

namespace Go.Proofs.Ytgpdnahmgacffaa
open Go Go.Ev Go.RowKit Go.ChangeShapes Go.WideShapes Go.ChangeAt

theorem own : ownKnob Try.prog.godebug = none := by kernel_rfl
theorem laidOut : laidOutB Try.prog = true := by kernel_rfl
theorem mapsRow : mapsRowed Try.prog = true := by kernel_rfl
theorem kids : Kids Try.prog (· < Try.prog.types.size) := kids_rows laidOut mapsRow
theorem slicesFull : ∀ t e, t < Try.prog.types.size → Try.prog.underlying t = some (.slice e) → 0 < Try.prog.cellsOf e := slices_full_of Try.prog (by kernel_rfl)
theorem und4' : Try.prog.underlying 4 = some .bool := by kernel_rfl

set_option maxRecDepth 100000 in
/-- what is known of a function that answers true, as the row wants it -/
theorem calls_true {C : Ctx} {g : FuncId} {f : Func} {spec : Go.Ev.Spec} (hC : C.P = Try.prog) (hG : ∀ b, C.glob b = none) (hs : Sat C g spec) {H : Type} {enc : TypeId × Value → H} {s : ChangeSpec} {W : World} {args : Array Value} {ds gs : List (DataW H)} {before : List MemPlace} {ps : List PV}
    (hts : ∀ t ∈ f.params.toList, t < Try.prog.types.size) (hrt : f.resultTypes = #[4]) (hW : DataW.Whole enc Try.prog f.params.toList s.vars false W args.toList ds gs before) (hv : s.vars = [])
    (hargs : (s.fn H (ds ++ gs)).args = ds) (hvars : (s.fn H (ds ++ gs)).vars = []) (hres : (s.fn H (ds ++ gs)).results = [.lit (.bool true)])
    (hps : RPs (FW W) W ps args.toList) (hsp : spec ps = some [pbool true]) :
    Calls Try.prog g args W fun e W' => ∃ v, e = .returned v ∧ s.post enc Try.prog f false true false false W args v W' := by
  have h := hs ps _ hsp (FW W) W args.toList (fun _ _ h => h) (fun b row hb => by rw [hG] at hb; cases hb) hps
  rw [hC] at h
  have e : args.toList.toArray = args := by simp
  rw [e] at h
  refine h.mono ?_
  rintro e W' ⟨v, F', rfl, hb, _, _, _, hr⟩
  have hvv : v = .bool true := by
    cases hr with
    | one _ _ h =>
      cases h with
      | one _ _ h => cases h; rfl
    | many ps vs hn _ => exact absurd rfl hn
  subst hvv
  refine ⟨_, rfl, post_below kids slicesFull hts hW hv hargs hvars (fun b sp hd => ?_) hb ?_⟩
  · rw [hrt, hres]
    exact trodAll_mk1 (shut_bool und4' _)
  · exact ok_one hrt rfl (okWide_bool_mk und4' _)

set_option maxRecDepth 100000 in
theorem tells_lifted (os : Os) (started : os.Started) (H : Type) (enc : TypeId × Value → H) :
    ReturnsInHanded {} Try.checked os 3 .any (Rows.pastTellsSpec.pre6 enc Try.prog Try.f3 Rows.pastTellsRow.domain false) (Rows.pastTellsSpec.post enc Try.prog Try.f3 false true false false) := by
  refine returnsInHanded_of_change (C := Try.checked) own started (by kernel_rfl) Try.func3
    (ChangeSpec.witness6 (enc := enc) (C := Try.checked) false ⟨#[], #[.slice none 0 0, .agg #[.int .i64 0, .int .i64 0], .agg #[.int .i64 0, .int .i64 0]], []⟩ 8 (by kernel_rfl) (by kernel_rfl) (by kernel_rfl) (by kernel_rfl)) ?_
  intro W base args ds gs before hval0 hW hcnd0 _
  have hval : ∀ (j : Nat) t v, Try.f3.params[j]? = some t → args[j]? = some v → Value.okWide Try.prog W .any base t v := hval0
  have hW' := hW
  obtain ⟨p, q, hA0, hV, rfl, hfz, hnd⟩ := hW
  have hA : DataW.TrodAll enc Try.prog W 0 (fun _ => true) true Try.f3.params.toList args.toList ds p := hA0
  rw [Try.params3] at hA hval
  obtain ⟨v0, v1, v2, d0, d1, d2, p0, p1, p2, rfl, rfl, rfl, h0, h1, h2⟩ := trodAll_three hA
  obtain ⟨rfl, rfl⟩ := trodVars_none hV
  clear hA0 hval0
  obtain ⟨q0, l, r0, e0⟩ := rp_evts (hval 0 22 v0 rfl rfl) h0
  obtain ⟨q1, a, r1, e1⟩ := rp_pair (hval 1 23 v1 rfl rfl) h1
  obtain ⟨q2, b, r2, e2⟩ := rp_pair (hval 2 23 v2 rfl rfl) h2
  refine calls_true (C := C5) (f := Try.f3) (ps := [q0, q1, q2]) rfl (fun _ => rfl) tells_sat ?_ rfl hW' rfl rfl rfl rfl ⟨rfl, fun i p v hp hv => ?_⟩ (by simp only [tellsSpec, e0, e1, e2])
  · have h : (Try.f3.params.toList.all fun t => decide (t < Try.prog.types.size)) = true := by kernel_rfl
    intro t ht
    rw [List.all_eq_true] at h
    simpa using h t ht
  · match i, hp, hv with
    | 0, hp, hv => simp at hp hv; subst hp; subst hv; exact r0
    | 1, hp, hv => simp at hp hv; subst hp; subst hv; exact r1
    | 2, hp, hv => simp at hp hv; subst hp; subst hv; exact r2
    | j + 3, hp, hv => simp at hp

theorem tells_holds : Rows.PastTellsSaid :=
  OpenClaim.holds_of_wide 3 Try.f3 rfl rfl rfl rfl rfl rfl rfl ⟨rfl, rfl, rfl, rfl, rfl⟩ rfl rfl rfl rfl rfl (by kernel_rfl) Try.func3 (by kernel_rfl)
    (of_decide_eq_true (by kernel_rfl)) (by unfold Func.isWrapper; first | (rw [if_pos (by decide +kernel)]; kernel_rfl) | (rw [if_neg (by decide +kernel)]; exact ⟨rfl, rfl⟩))
    (fun os started H enc _ => tells_lifted os started H enc)

end Go.Proofs.Ytgpdnahmgacffaa
