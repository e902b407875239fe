/- AbstKinds: for every slice of numbers the function of the law answers true, and its argument reads as it did: the tied card. Conditions: none beyond the card's own (the three listed variables hold what the program's text lays). -/
import Derived.Test.YtbgdnghnfdijnaaGreatDoorMD
import Derived.OpenShut
import Derived.ReadAgain
import Derived.WalkKit
import Derived.ProofKit
import Derived.Deep.Slices
import Derived.LaidMore
import Derived.LaidLaws
import Derived.LaidHandle
import Derived.Test.YtbgdnghnfdijnaaGreatDoorCards
import Derived.Test.YtbgdnghnfdijnaaGreatDoorTie
import Derived.SevenTiedAt
set_option linter.unusedVariables false
set_option linter.unusedSimpArgs false

namespace Go.Ev
open Go Go.RowKit Go.Proofs
structure Itm where
  kind : Int
  cpu : Int
  gen : Int
  nice : Int
  mask : Int
  v : Int
  lag : Int
def Itm.row (x : Itm) : List DV := [di x.kind, di x.cpu, di x.gen, di x.nice, du x.mask, du x.v, di x.lag]
abbrev wr64 : Int → Int := IntKind.wrap .i64
abbrev wru : Int → Int := IntKind.wrap .u64
def cells6 (c : Nat → Int) : List AV := [vi (c 0), vi (c 1), vi (c 2), vi (c 3), vi (c 4), vi (c 5)]
end Go.Ev

namespace Go.Ev
open Go Go.RowKit Go.Proofs

theorem ka_yynL (full : Bool) (rows : List (List DV)) (n : Int) (i : Int) (l : List AV) (mb : List AV) (it : Itm) (i26 : Int) (x : X) (s : St) (h1 : decide (i < n) = true) (h2 : 0 ≤ i ∧ rows[Int.toNat i]? = some [di it.1, di it.2, di it.3, di it.4, DV.v (Value.int IntKind.u64 it.5), DV.v (Value.int IntKind.u64 it.6), di it.7]) (h3 : decide (it.kind ≥ 0) = true) (h4 : decide (it.kind < 6) = false) (h5 : wr64 (i + 1) = i26) (h6 : hFree [98308] { objs := [(98305, 1, [AO.cells mb false]), (98306, 1, [AO.cells l false]), (98308, 1, [AO.cells [vi it.1, vi it.2, vi it.3, vi it.4, AV.d (DV.v (Value.int IntKind.u64 it.5)), AV.d (DV.v (Value.int IntKind.u64 it.6)), vi it.7] false])] } = true) (h7 : Ev C0 noO (Task.code 12 false (loopOf Tryz.prog 12 0) { σ := slots 28 [(2, AV.ptr 98306 0 0), (6, AV.d (DV.sl 7 full rows)), (7, vi n), (8, vi i26)], h := { objs := [(98305, 1, [AO.cells mb false]), (98306, 1, [AO.cells l false])] } }) (Res.code x s)) :
    Ev C0 noO (Task.code 12 false (loopOf Tryz.prog 12 0) { σ := slots 28 [(2, AV.ptr (site 12 2) 0 0), (6, AV.d (DV.sl 7 full rows)), (7, vi n), (8, vi i)], h := H.push (H.push { } (site 12 1) (AO.cells mb false)) (site 12 2) (AO.cells l false) }) (.code (x) s) :=
  sym_ev 60 _ [(site 12 9, Dec.b true), (site 12 10, Dec.row (Itm.row it)), (site 12 14, Dec.b true), (site 12 18, Dec.b false), (site 12 26, Dec.int i26), (site 12 8002, Dec.drop [98308] [2, 6, 7, 8]), (site 12 8001, Dec.loop [2, 6, 7, 8] x s)] _ [] _ (by kernel_rfl) (AllP_cons h1 (AllP_cons h2 (AllP_cons h3 (AllP_cons h4 (AllP_cons h5 (AllP_cons (rfl : true = true) (AllP_cons h6 (AllP_cons (rfl : true = true) (AllP_cons h7 AllP_nil)))))))))
theorem ka_ynL (full : Bool) (rows : List (List DV)) (n : Int) (i : Int) (l : List AV) (mb : List AV) (it : Itm) (i26 : Int) (x : X) (s : St) (h1 : decide (i < n) = true) (h2 : 0 ≤ i ∧ rows[Int.toNat i]? = some [di it.1, di it.2, di it.3, di it.4, DV.v (Value.int IntKind.u64 it.5), DV.v (Value.int IntKind.u64 it.6), di it.7]) (h3 : decide (it.kind ≥ 0) = false) (h4 : wr64 (i + 1) = i26) (h5 : hFree [98308] { objs := [(98305, 1, [AO.cells mb false]), (98306, 1, [AO.cells l false]), (98308, 1, [AO.cells [vi it.1, vi it.2, vi it.3, vi it.4, AV.d (DV.v (Value.int IntKind.u64 it.5)), AV.d (DV.v (Value.int IntKind.u64 it.6)), vi it.7] false])] } = true) (h6 : Ev C0 noO (Task.code 12 false (loopOf Tryz.prog 12 0) { σ := slots 28 [(2, AV.ptr 98306 0 0), (6, AV.d (DV.sl 7 full rows)), (7, vi n), (8, vi i26)], h := { objs := [(98305, 1, [AO.cells mb false]), (98306, 1, [AO.cells l false])] } }) (Res.code x s)) :
    Ev C0 noO (Task.code 12 false (loopOf Tryz.prog 12 0) { σ := slots 28 [(2, AV.ptr (site 12 2) 0 0), (6, AV.d (DV.sl 7 full rows)), (7, vi n), (8, vi i)], h := H.push (H.push { } (site 12 1) (AO.cells mb false)) (site 12 2) (AO.cells l false) }) (.code (x) s) :=
  sym_ev 60 _ [(site 12 9, Dec.b true), (site 12 10, Dec.row (Itm.row it)), (site 12 14, Dec.b false), (site 12 26, Dec.int i26), (site 12 8002, Dec.drop [98308] [2, 6, 7, 8]), (site 12 8001, Dec.loop [2, 6, 7, 8] x s)] _ [] _ (by kernel_rfl) (AllP_cons h1 (AllP_cons h2 (AllP_cons h3 (AllP_cons h4 (AllP_cons (rfl : true = true) (AllP_cons h5 (AllP_cons (rfl : true = true) (AllP_cons h6 AllP_nil))))))))
theorem ka_n (full : Bool) (rows : List (List DV)) (n : Int) (i : Int) (l : List AV) (mb : List AV) (h1 : decide (i < n) = false) (h2 : hFree [98308] { objs := [(98305, 1, [AO.cells mb false]), (98306, 1, [AO.cells l false])] } = true) :
    Ev C0 noO (Task.code 12 false (loopOf Tryz.prog 12 0) { σ := slots 28 [(2, AV.ptr (site 12 2) 0 0), (6, AV.d (DV.sl 7 full rows)), (7, vi n), (8, vi i)], h := H.push (H.push { } (site 12 1) (AO.cells mb false)) (site 12 2) (AO.cells l false) }) (.code (X.exit 0) { σ := slots 28 [(2, AV.ptr 98306 0 0)], h := { objs := [(98305, 1, [AO.cells mb false]), (98306, 1, [AO.cells l false])] } }) :=
  symD_ev (n := 60) (sc := [(site 12 9, Dec.b false)]) (keep := [2]) (L := [98308]) (sc' := []) (by kernel_rfl) (AllP_cons h1 (AllP_cons (rfl : true = true) (AllP_cons h2 (AllP_cons (rfl : true = true) AllP_nil))))
theorem kc_L (full : Bool) (rows : List (List DV)) (n : Int) (i : Int) (l : List AV) (mb : List AV) (it : Itm) (m : Nat) (a : Int) (i24 : Int) (m2 : Nat) (l' : List AV) (i26 : Int) (x : X) (s : St) (h1 : decide (i < n) = true) (h2 : 0 ≤ i ∧ rows[Int.toNat i]? = some [di it.1, di it.2, di it.3, di it.4, DV.v (Value.int IntKind.u64 it.5), DV.v (Value.int IntKind.u64 it.6), di it.7]) (h3 : decide (it.kind ≥ 0) = true) (h4 : decide (it.kind < 6) = true) (h5 : it.kind = ↑m ∧ m < 6) (h6 : asCells C0 3 l (0 + m * 1) = some (vi a)) (h7 : wr64 (a + 1) = i24) (h8 : it.kind = ↑m2 ∧ m2 < 6) (h9 : stoEq C0 3 l (0 + m2 * 1) (vi i24) l') (h10 : wr64 (i + 1) = i26) (h11 : hFree [98308] { objs := [(98305, 1, [AO.cells mb false]), (98306, 1, [AO.cells l' false]), (98308, 1, [AO.cells [vi it.1, vi it.2, vi it.3, vi it.4, AV.d (DV.v (Value.int IntKind.u64 it.5)), AV.d (DV.v (Value.int IntKind.u64 it.6)), vi it.7] false])] } = true) (h12 : Ev C0 noO (Task.code 12 false (loopOf Tryz.prog 12 0) { σ := slots 28 [(2, AV.ptr 98306 0 0), (6, AV.d (DV.sl 7 full rows)), (7, vi n), (8, vi i26)], h := { objs := [(98305, 1, [AO.cells mb false]), (98306, 1, [AO.cells l' false])] } }) (Res.code x s)) :
    Ev C0 noO (Task.code 12 false (loopOf Tryz.prog 12 0) { σ := slots 28 [(2, AV.ptr (site 12 2) 0 0), (6, AV.d (DV.sl 7 full rows)), (7, vi n), (8, vi i)], h := H.push (H.push { } (site 12 1) (AO.cells mb false)) (site 12 2) (AO.cells l false) }) (.code (x) s) :=
  sym_ev 60 _ [(site 12 9, Dec.b true), (site 12 10, Dec.row (Itm.row it)), (site 12 14, Dec.b true), (site 12 18, Dec.b true), (site 12 22, Dec.idx m), (site 12 23, Dec.ld (vi a)), (site 12 24, Dec.int i24), (site 12 25, Dec.idx m2), (site 12 8000, Dec.sto l'), (site 12 26, Dec.int i26), (site 12 8002, Dec.drop [98308] [2, 6, 7, 8]), (site 12 8001, Dec.loop [2, 6, 7, 8] x s)] _ [] _ (by kernel_rfl) (AllP_cons h1 (AllP_cons h2 (AllP_cons h3 (AllP_cons h4 (AllP_cons h5 (AllP_cons h6 (AllP_cons h7 (AllP_cons h8 (AllP_cons h9 (AllP_cons h10 (AllP_cons (rfl : true = true) (AllP_cons h11 (AllP_cons (rfl : true = true) (AllP_cons h12 AllP_nil))))))))))))))
theorem kb_yynL (full : Bool) (rows : List (List DV)) (i : Int) (l : List AV) (l2 : List AV) (d1 : DV) (d2 : DV) (i9 : Int) (it : Itm) (i12 : Int) (x : X) (s : St) (h1 : ↑(List.length rows) = i9) (h2 : decide (i < i9) = true) (h3 : 0 ≤ i ∧ rows[Int.toNat i]? = some [di it.1, di it.2, di it.3, di it.4, DV.v (Value.int IntKind.u64 it.5), DV.v (Value.int IntKind.u64 it.6), di it.7]) (h4 : decide (it.kind ≥ 0) = true) (h5 : decide (it.kind < 6) = false) (h6 : wr64 (i + 1) = i12) (h7 : Ev C0 noO (Task.code 13 false (loopOf Tryz.prog 13 0) { σ := slots 32 [(1, AV.ptr 106497 0 0), (2, AV.ptr 106498 0 0), (3, AV.ptr 106499 0 0), (4, vi i12)], h := { objs := [(106497, 1, [AO.cells [AV.d (DV.sl 7 full rows), AV.d d1, AV.d d2] false]), (106498, 1, [AO.cells l2 false]), (106499, 1, [AO.cells l false])] } }) (Res.code x s)) :
    Ev C0 noO (Task.code 13 false (loopOf Tryz.prog 13 0) { σ := slots 32 [(1, AV.ptr (site 13 1) 0 0), (2, AV.ptr (site 13 2) 0 0), (3, AV.ptr (site 13 3) 0 0), (4, vi i)], h := H.push (H.push (H.push { } (site 13 1) (AO.cells [AV.d (DV.sl 7 full rows), AV.d d1, AV.d d2] false)) (site 13 2) (AO.cells l2 false)) (site 13 3) (AO.cells l false) }) (.code (x) s) :=
  sym_ev 60 _ [(site 13 9, Dec.int i9), (site 13 10, Dec.b true), (site 13 16, Dec.row (Itm.row it)), (site 13 20, Dec.b true), (site 13 23, Dec.b false), (site 13 12, Dec.int i12), (site 13 8001, Dec.loop [1, 2, 3, 4] x s)] _ [] _ (by kernel_rfl) (AllP_cons h1 (AllP_cons h2 (AllP_cons h3 (AllP_cons h4 (AllP_cons h5 (AllP_cons h6 (AllP_cons h7 AllP_nil)))))))
theorem kb_ynL (full : Bool) (rows : List (List DV)) (i : Int) (l : List AV) (l2 : List AV) (d1 : DV) (d2 : DV) (i9 : Int) (it : Itm) (i12 : Int) (x : X) (s : St) (h1 : ↑(List.length rows) = i9) (h2 : decide (i < i9) = true) (h3 : 0 ≤ i ∧ rows[Int.toNat i]? = some [di it.1, di it.2, di it.3, di it.4, DV.v (Value.int IntKind.u64 it.5), DV.v (Value.int IntKind.u64 it.6), di it.7]) (h4 : decide (it.kind ≥ 0) = false) (h5 : wr64 (i + 1) = i12) (h6 : Ev C0 noO (Task.code 13 false (loopOf Tryz.prog 13 0) { σ := slots 32 [(1, AV.ptr 106497 0 0), (2, AV.ptr 106498 0 0), (3, AV.ptr 106499 0 0), (4, vi i12)], h := { objs := [(106497, 1, [AO.cells [AV.d (DV.sl 7 full rows), AV.d d1, AV.d d2] false]), (106498, 1, [AO.cells l2 false]), (106499, 1, [AO.cells l false])] } }) (Res.code x s)) :
    Ev C0 noO (Task.code 13 false (loopOf Tryz.prog 13 0) { σ := slots 32 [(1, AV.ptr (site 13 1) 0 0), (2, AV.ptr (site 13 2) 0 0), (3, AV.ptr (site 13 3) 0 0), (4, vi i)], h := H.push (H.push (H.push { } (site 13 1) (AO.cells [AV.d (DV.sl 7 full rows), AV.d d1, AV.d d2] false)) (site 13 2) (AO.cells l2 false)) (site 13 3) (AO.cells l false) }) (.code (x) s) :=
  sym_ev 60 _ [(site 13 9, Dec.int i9), (site 13 10, Dec.b true), (site 13 16, Dec.row (Itm.row it)), (site 13 20, Dec.b false), (site 13 12, Dec.int i12), (site 13 8001, Dec.loop [1, 2, 3, 4] x s)] _ [] _ (by kernel_rfl) (AllP_cons h1 (AllP_cons h2 (AllP_cons h3 (AllP_cons h4 (AllP_cons h5 (AllP_cons h6 AllP_nil))))))
theorem kb_n (full : Bool) (rows : List (List DV)) (i : Int) (l : List AV) (l2 : List AV) (d1 : DV) (d2 : DV) (i9 : Int) (h1 : ↑(List.length rows) = i9) (h2 : decide (i < i9) = false) :
    Ev C0 noO (Task.code 13 false (loopOf Tryz.prog 13 0) { σ := slots 32 [(1, AV.ptr (site 13 1) 0 0), (2, AV.ptr (site 13 2) 0 0), (3, AV.ptr (site 13 3) 0 0), (4, vi i)], h := H.push (H.push (H.push { } (site 13 1) (AO.cells [AV.d (DV.sl 7 full rows), AV.d d1, AV.d d2] false)) (site 13 2) (AO.cells l2 false)) (site 13 3) (AO.cells l false) }) (.code (X.exit 0) { σ := slots 32 [(2, AV.ptr 106498 0 0), (3, AV.ptr 106499 0 0)], h := { objs := [(106497, 1, [AO.cells [AV.d (DV.sl 7 full rows), AV.d d1, AV.d d2] false]), (106498, 1, [AO.cells l2 false]), (106499, 1, [AO.cells l false])] } }) :=
  symM_ev (n := 60) (sc := [(site 13 9, Dec.int i9), (site 13 10, Dec.b false)]) (keep := [2, 3]) (sc' := []) (by kernel_rfl) (AllP_cons h1 (AllP_cons h2 AllP_nil))
theorem kd_L (full : Bool) (rows : List (List DV)) (i : Int) (l : List AV) (l2 : List AV) (d1 : DV) (d2 : DV) (i9 : Int) (it : Itm) (m : Nat) (a : Int) (i29 : Int) (m2 : Nat) (l' : List AV) (i12 : Int) (x : X) (s : St) (h1 : ↑(List.length rows) = i9) (h2 : decide (i < i9) = true) (h3 : 0 ≤ i ∧ rows[Int.toNat i]? = some [di it.1, di it.2, di it.3, di it.4, DV.v (Value.int IntKind.u64 it.5), DV.v (Value.int IntKind.u64 it.6), di it.7]) (h4 : decide (it.kind ≥ 0) = true) (h5 : decide (it.kind < 6) = true) (h6 : it.kind = ↑m ∧ m < 6) (h7 : asCells C0 3 l (0 + m * 1) = some (vi a)) (h8 : wr64 (a + 1) = i29) (h9 : it.kind = ↑m2 ∧ m2 < 6) (h10 : stoEq C0 3 l (0 + m2 * 1) (vi i29) l') (h11 : wr64 (i + 1) = i12) (h12 : Ev C0 noO (Task.code 13 false (loopOf Tryz.prog 13 0) { σ := slots 32 [(1, AV.ptr 106497 0 0), (2, AV.ptr 106498 0 0), (3, AV.ptr 106499 0 0), (4, vi i12)], h := { objs := [(106497, 1, [AO.cells [AV.d (DV.sl 7 full rows), AV.d d1, AV.d d2] false]), (106498, 1, [AO.cells l2 false]), (106499, 1, [AO.cells l' false])] } }) (Res.code x s)) :
    Ev C0 noO (Task.code 13 false (loopOf Tryz.prog 13 0) { σ := slots 32 [(1, AV.ptr (site 13 1) 0 0), (2, AV.ptr (site 13 2) 0 0), (3, AV.ptr (site 13 3) 0 0), (4, vi i)], h := H.push (H.push (H.push { } (site 13 1) (AO.cells [AV.d (DV.sl 7 full rows), AV.d d1, AV.d d2] false)) (site 13 2) (AO.cells l2 false)) (site 13 3) (AO.cells l false) }) (.code (x) s) :=
  sym_ev 60 _ [(site 13 9, Dec.int i9), (site 13 10, Dec.b true), (site 13 16, Dec.row (Itm.row it)), (site 13 20, Dec.b true), (site 13 23, Dec.b true), (site 13 27, Dec.idx m), (site 13 28, Dec.ld (vi a)), (site 13 29, Dec.int i29), (site 13 30, Dec.idx m2), (site 13 8000, Dec.sto l'), (site 13 12, Dec.int i12), (site 13 8001, Dec.loop [1, 2, 3, 4] x s)] _ [] _ (by kernel_rfl) (AllP_cons h1 (AllP_cons h2 (AllP_cons h3 (AllP_cons h4 (AllP_cons h5 (AllP_cons h6 (AllP_cons h7 (AllP_cons h8 (AllP_cons h9 (AllP_cons h10 (AllP_cons h11 (AllP_cons h12 AllP_nil))))))))))))

end Go.Ev

namespace Go.Ev
open Go Go.RowKit Go.Proofs

theorem kcall_ (full : Bool) (rows : List (List DV)) (c : Nat → Int) (i7 : Int) (h1 : ↑(List.length rows) = i7) (h2 : Ev C0 noO (Task.code 12 false (loopOf Tryz.prog 12 0) { σ := slots 28 [(2, AV.ptr 98306 0 0), (6, AV.d (DV.sl 7 full rows)), (7, vi i7), (8, vi 0)], h := { objs := [(98305, 1, [AO.cells [AV.d (DV.sl 7 full rows), AV.d (DV.v (Value.slice none 0 0)), AV.d (DV.v (Value.slice none 0 0))] false]), (98306, 1, [AO.cells [vi 0, vi 0, vi 0, vi 0, vi 0, vi 0] false])] } }) (Res.code (X.exit 0) { σ := slots 28 [(2, AV.ptr (site 12 2) 0 0)], h := H.push (H.push { } (site 12 1) (AO.cells [AV.d (DV.sl 7 full rows), AV.d (DV.v (Value.slice none 0 0)), AV.d (DV.v (Value.slice none 0 0))] false)) (site 12 2) (AO.cells (cells6 c) false) })) :
    Ev C0 noO (Task.call 12 [AV.agg [AV.d (DV.sl 7 full rows), AV.d (DV.v (Value.slice none 0 0)), AV.d (DV.v (Value.slice none 0 0))]] { }) (.val (AV.agg [vi (c 0), vi (c 1), vi (c 2), vi (c 3), vi (c 4), vi (c 5)]) { objs := [(98305, 1, [AO.cells [AV.d (DV.sl 7 full rows), AV.d (DV.v (Value.slice none 0 0)), AV.d (DV.v (Value.slice none 0 0))] false]), (98306, 1, [AO.cells [vi (c 0), vi (c 1), vi (c 2), vi (c 3), vi (c 4), vi (c 5)] false])] }) :=
  sym_ev 60 _ [(site 12 7, Dec.int i7), (site 12 8001, Dec.loop [2, 6, 7, 8] (X.exit 0) { σ := slots 28 [(2, AV.ptr (site 12 2) 0 0)], h := H.push (H.push { } (site 12 1) (AO.cells [AV.d (DV.sl 7 full rows), AV.d (DV.v (Value.slice none 0 0)), AV.d (DV.v (Value.slice none 0 0))] false)) (site 12 2) (AO.cells (cells6 c) false) })] _ [] _ (by kernel_rfl) (AllP_cons h1 (AllP_cons h2 AllP_nil))
theorem kdcall_ (full : Bool) (rows : List (List DV)) (c : Nat → Int) (h1 : Ev C0 noO (Task.code 13 false (loopOf Tryz.prog 13 0) { σ := slots 32 [(1, AV.ptr 106497 0 0), (2, AV.ptr 106498 0 0), (3, AV.ptr 106499 0 0), (4, vi 0)], h := { objs := [(106497, 1, [AO.cells [AV.d (DV.sl 7 full rows), AV.d (DV.v (Value.slice none 0 0)), AV.d (DV.v (Value.slice none 0 0))] false]), (106498, 1, [AO.cells [vi 0, vi 0, vi 0, vi 0, vi 0, vi 0] false]), (106499, 1, [AO.cells [vi 0, vi 0, vi 0, vi 0, vi 0, vi 0] false])] } }) (Res.code (X.exit 0) { σ := slots 32 [(2, AV.ptr (site 13 2) 0 0), (3, AV.ptr (site 13 3) 0 0)], h := H.push (H.push (H.push { } (site 13 1) (AO.cells [AV.d (DV.sl 7 full rows), AV.d (DV.v (Value.slice none 0 0)), AV.d (DV.v (Value.slice none 0 0))] false)) (site 13 2) (AO.cells [vi 0, vi 0, vi 0, vi 0, vi 0, vi 0] false)) (site 13 3) (AO.cells (cells6 c) false) })) :
    Ev C0 noO (Task.call 13 [AV.agg [AV.d (DV.sl 7 full rows), AV.d (DV.v (Value.slice none 0 0)), AV.d (DV.v (Value.slice none 0 0))]] { }) (.val (AV.agg [vi (c 0), vi (c 1), vi (c 2), vi (c 3), vi (c 4), vi (c 5)]) { objs := [(106497, 1, [AO.cells [AV.d (DV.sl 7 full rows), AV.d (DV.v (Value.slice none 0 0)), AV.d (DV.v (Value.slice none 0 0))] false]), (106498, 1, [AO.cells [vi (c 0), vi (c 1), vi (c 2), vi (c 3), vi (c 4), vi (c 5)] false]), (106499, 1, [AO.cells [vi (c 0), vi (c 1), vi (c 2), vi (c 3), vi (c 4), vi (c 5)] false])] }) :=
  sym_ev 60 _ [(site 13 8001, Dec.loop [1, 2, 3, 4] (X.exit 0) { σ := slots 32 [(2, AV.ptr (site 13 2) 0 0), (3, AV.ptr (site 13 3) 0 0)], h := H.push (H.push (H.push { } (site 13 1) (AO.cells [AV.d (DV.sl 7 full rows), AV.d (DV.v (Value.slice none 0 0)), AV.d (DV.v (Value.slice none 0 0))] false)) (site 13 2) (AO.cells [vi 0, vi 0, vi 0, vi 0, vi 0, vi 0] false)) (site 13 3) (AO.cells (cells6 c) false) })] _ [] _ (by kernel_rfl) (AllP_cons h1 AllP_nil)

end Go.Ev

namespace Go.Ev
open Go Go.RowKit Go.Proofs

def kstep (k : Int) (c : Nat → Int) : Nat → Int := if 0 ≤ k ∧ k < 6 then fun j => if j = k.toNat then wr64 (c j + 1) else c j else c
def kcount : List Itm → (Nat → Int) → Nat → Int
  | [], c => c
  | x :: r, c => kcount r (kstep x.kind c)
theorem agg3 : isAggT C0 3 = some false := by kernel_rfl
theorem cells6_ld (c : Nat → Int) (m : Nat) (h : m < 6) : asCells C0 3 (cells6 c) (0 + m * 1) = some (vi (c m)) := by
  have e : asCells C0 3 (cells6 c) (0 + m * 1) = (cells6 c)[m]? := by
    unfold asCells
    rw [agg3]
    simp
  refine e.trans ?_
  clear e
  match m, h with
  | 0, _ => rfl
  | 1, _ => rfl
  | 2, _ => rfl
  | 3, _ => rfl
  | 4, _ => rfl
  | 5, _ => rfl
theorem cells6_sto (c : Nat → Int) (m : Nat) (h : m < 6) (v : Int) : stoEq C0 3 (cells6 c) (0 + m * 1) (vi v) (cells6 fun j => if j = m then v else c j) := by
  refine ⟨1, by kernel_rfl, rfl, by simp [cells6]; omega, rfl, ?_⟩
  match m, h with
  | 0, _ => rfl
  | 1, _ => rfl
  | 2, _ => rfl
  | 3, _ => rfl
  | 4, _ => rfl
  | 5, _ => rfl
def rowsT (l : List Itm) : List (List DV) := l.map Itm.row
def hd12 (sl : DV) (n i : Int) (c : Nat → Int) (x : DV) : St := { σ := slots 28 [(2, .ptr (site 12 2) 0 0), (6, .d sl), (7, vi n), (8, vi i)], h := (({} : H).push (site 12 1) (.cells [.d x, .d dnil, .d dnil] false)).push (site 12 2) (.cells (cells6 c) false) }
def out12 (c : Nat → Int) (x : DV) : St := { σ := slots 28 [(2, .ptr (site 12 2) 0 0)], h := (({} : H).push (site 12 1) (.cells [.d x, .d dnil, .d dnil] false)).push (site 12 2) (.cells (cells6 c) false) }
theorem ev12_loop (full : Bool) : ∀ (rest pre : List Itm) (c : Nat → Int), (pre ++ rest).length < 2 ^ 40 →
    Ev C0 noO (.code 12 false (loopOf Tryz.prog 12 0) (hd12 (.sl 7 full (rowsT (pre ++ rest))) ((pre ++ rest).length : Nat) (pre.length : Nat) c (.sl 7 full (rowsT (pre ++ rest))))) (.code (.exit 0) (out12 (kcount rest c) (.sl 7 full (rowsT (pre ++ rest)))))
  | [], pre, c, hb => ka_n full _ _ _ (cells6 c) [.d (.sl 7 full (rowsT (pre ++ []))), .d dnil, .d dnil] (by simp) rfl
  | it :: rest, pre, c, hb => by
    have hlt : pre.length < (pre ++ it :: rest).length := by simp
    have hrow : (rowsT (pre ++ it :: rest))[((pre.length : Nat) : Int).toNat]? = some it.row := by simp [rowsT]
    have ih := ev12_loop full rest (pre ++ [it]) (kstep it.kind c) (by simpa using hb)
    simp only [List.append_assoc, List.singleton_append, List.length_append, List.length_singleton] at ih
    simp only [List.length_append] at *
    by_cases h0 : 0 ≤ it.kind
    · by_cases h6 : it.kind < 6
      · have hk : kstep it.kind c = fun j => if j = it.kind.toNat then wr64 (c it.kind.toNat + 1) else c j := by
          unfold kstep
          rw [if_pos ⟨h0, h6⟩]
          funext j
          split
          · rename_i e; rw [e]
          · rfl
        rw [hk] at ih
        refine kc_L full _ _ _ (cells6 c) [.d (.sl 7 full (rowsT (pre ++ it :: rest))), .d dnil, .d dnil] it it.kind.toNat (c it.kind.toNat) (wr64 (c it.kind.toNat + 1)) it.kind.toNat (cells6 fun j => if j = it.kind.toNat then wr64 (c it.kind.toNat + 1) else c j) ((pre.length + 1 : Nat) : Int) _ _
          (decide_eq_true (Int.ofNat_lt.2 (by simp))) ⟨by omega, hrow⟩ (decide_eq_true h0) (decide_eq_true h6) ⟨by omega, by omega⟩ (cells6_ld _ _ (by omega)) rfl ⟨by omega, by omega⟩ (cells6_sto _ _ (by omega) _) (wrap_succ (by simp at hb; omega)) rfl ?_
        simp only [kcount, hk]
        exact ih
      · have hk : kstep it.kind c = c := by unfold kstep; rw [if_neg (by omega)]
        rw [hk] at ih
        refine ka_yynL full _ _ _ (cells6 c) [.d (.sl 7 full (rowsT (pre ++ it :: rest))), .d dnil, .d dnil] it ((pre.length + 1 : Nat) : Int) _ _
          (decide_eq_true (Int.ofNat_lt.2 (by simp))) ⟨by omega, hrow⟩ (decide_eq_true h0) (decide_eq_false h6) (wrap_succ (by simp at hb; omega)) rfl ?_
        simp only [kcount, hk]
        exact ih
    · have hk : kstep it.kind c = c := by unfold kstep; rw [if_neg (by omega)]
      rw [hk] at ih
      refine ka_ynL full _ _ _ (cells6 c) [.d (.sl 7 full (rowsT (pre ++ it :: rest))), .d dnil, .d dnil] it ((pre.length + 1 : Nat) : Int) _ _
        (decide_eq_true (Int.ofNat_lt.2 (by simp))) ⟨by omega, hrow⟩ (decide_eq_false h0) (wrap_succ (by simp at hb; omega)) rfl ?_
      simp only [kcount, hk]
      exact ih
def zero6 : Nat → Int := fun _ => 0
def row6 (c : Nat → Int) : List DV := [di (c 0), di (c 1), di (c 2), di (c 3), di (c 4), di (c 5)]
theorem ev12 (full : Bool) (l : List Itm) (hb : l.length < 2 ^ 40) : ∃ h1, Ev C0 noO (.call 12 [.agg [.d (.sl 7 full (rowsT l)), .d dnil, .d dnil]] {}) (.val (.agg (cells6 (kcount l zero6))) h1) := by
  have h := ev12_loop full l [] zero6 (by simpa using hb)
  exact ⟨_, kcall_ full _ (kcount l zero6) ((l.length : Nat) : Int) (by simp [rowsT]) h⟩

def hd13 (x : DV) (i : Int) (c : Nat → Int) : St := { σ := slots 32 [(1, .ptr (site 13 1) 0 0), (2, .ptr (site 13 2) 0 0), (3, .ptr (site 13 3) 0 0), (4, vi i)], h := ((({} : H).push (site 13 1) (.cells [.d x, .d dnil, .d dnil] false)).push (site 13 2) (.cells (cells6 zero6) false)).push (site 13 3) (.cells (cells6 c) false) }
def out13 (x : DV) (c : Nat → Int) : St := { σ := slots 32 [(2, .ptr (site 13 2) 0 0), (3, .ptr (site 13 3) 0 0)], h := ((({} : H).push (site 13 1) (.cells [.d x, .d dnil, .d dnil] false)).push (site 13 2) (.cells (cells6 zero6) false)).push (site 13 3) (.cells (cells6 c) false) }
theorem ev13_loop (full : Bool) : ∀ (rest pre : List Itm) (c : Nat → Int), (pre ++ rest).length < 2 ^ 40 →
    Ev C0 noO (.code 13 false (loopOf Tryz.prog 13 0) (hd13 (.sl 7 full (rowsT (pre ++ rest))) (pre.length : Nat) c)) (.code (.exit 0) (out13 (.sl 7 full (rowsT (pre ++ rest))) (kcount rest c)))
  | [], pre, c, hb => kb_n full (rowsT (pre ++ [])) _ (cells6 c) (cells6 zero6) dnil dnil ((rowsT (pre ++ [])).length : Nat) rfl (by simp [rowsT])
  | it :: rest, pre, c, hb => by
    have hlt : pre.length < (pre ++ it :: rest).length := by simp
    have hrow : (rowsT (pre ++ it :: rest))[((pre.length : Nat) : Int).toNat]? = some it.row := by simp [rowsT]
    have ih := ev13_loop full rest (pre ++ [it]) (kstep it.kind c) (by simpa using hb)
    simp only [List.append_assoc, List.singleton_append, List.length_append, List.length_singleton] at ih
    simp only [List.length_append] at *
    have hd : decide (((pre.length : Nat) : Int) < ((rowsT (pre ++ it :: rest)).length : Nat)) = true := decide_eq_true (Int.ofNat_lt.2 (by simp [rowsT]))
    by_cases h0 : 0 ≤ it.kind
    · by_cases h6 : it.kind < 6
      · have hk : kstep it.kind c = fun j => if j = it.kind.toNat then wr64 (c it.kind.toNat + 1) else c j := by
          unfold kstep
          rw [if_pos ⟨h0, h6⟩]
          funext j
          split
          · rename_i e; rw [e]
          · rfl
        rw [hk] at ih
        refine kd_L full _ _ (cells6 c) (cells6 zero6) dnil dnil _ it it.kind.toNat (c it.kind.toNat) (wr64 (c it.kind.toNat + 1)) it.kind.toNat (cells6 fun j => if j = it.kind.toNat then wr64 (c it.kind.toNat + 1) else c j) ((pre.length + 1 : Nat) : Int) _ _
          rfl hd ⟨by omega, hrow⟩ (decide_eq_true h0) (decide_eq_true h6) ⟨by omega, by omega⟩ (cells6_ld _ _ (by omega)) rfl ⟨by omega, by omega⟩ (cells6_sto _ _ (by omega) _) (wrap_succ (by simp at hb; omega)) ?_
        simp only [kcount, hk]
        exact ih
      · have hk : kstep it.kind c = c := by unfold kstep; rw [if_neg (by omega)]
        rw [hk] at ih
        refine kb_yynL full _ _ (cells6 c) (cells6 zero6) dnil dnil _ it ((pre.length + 1 : Nat) : Int) _ _
          rfl hd ⟨by omega, hrow⟩ (decide_eq_true h0) (decide_eq_false h6) (wrap_succ (by simp at hb; omega)) ?_
        simp only [kcount, hk]
        exact ih
    · have hk : kstep it.kind c = c := by unfold kstep; rw [if_neg (by omega)]
      rw [hk] at ih
      refine kb_ynL full _ _ (cells6 c) (cells6 zero6) dnil dnil _ it ((pre.length + 1 : Nat) : Int) _ _
        rfl hd ⟨by omega, hrow⟩ (decide_eq_false h0) (wrap_succ (by simp at hb; omega)) ?_
      simp only [kcount, hk]
      exact ih
theorem ev13 (full : Bool) (l : List Itm) (hb : l.length < 2 ^ 40) : ∃ h1, Ev C0 noO (.call 13 [.agg [.d (.sl 7 full (rowsT l)), .d dnil, .d dnil]] {}) (.val (.agg (cells6 (kcount l zero6))) h1) := by
  have h := ev13_loop full l [] zero6 (by simpa using hb)
  exact ⟨_, kdcall_ full _ (kcount l zero6) h⟩

def itmOf : List DV → Option Itm
  | [.v (.int .i64 a), .v (.int .i64 b), .v (.int .i64 c), .v (.int .i64 d), .v (.int .u64 e), .v (.int .u64 f), .v (.int .i64 g)] => some ⟨a, b, c, d, e, f, g⟩
  | _ => none
theorem itmOf_row (x : Itm) : itmOf x.row = some x := rfl
theorem itmOf_eq {r : List DV} {x : Itm} (h : itmOf r = some x) : r = x.row := by
  unfold itmOf at h
  split at h
  · simp only [Option.some.injEq] at h; subst h; rfl
  · cases h
theorem itms_eq {rows : List (List DV)} {l : List Itm} (h : allSome itmOf rows = some l) : rows = rowsT l := by
  induction rows generalizing l with
  | nil => simp [allSome] at h; subst h; rfl
  | cons r rows ih =>
    simp only [allSome] at h
    cases e1 : itmOf r with
    | none => simp [e1] at h
    | some a =>
      cases e2 : allSome itmOf rows with
      | none => simp [e1, e2] at h
      | some l' =>
        simp only [e1, e2, Option.some.injEq] at h
        subst h
        simp only [rowsT, List.map_cons]
        rw [itmOf_eq e1, ih e2]; rfl
def itemsOf : DV → Option (List Itm)
  | .v (.slice none 0 0) => some []
  | .sl 7 _ rows => match allSome itmOf rows with
    | some l => if l.length < 2 ^ 40 then some l else none
    | none => none
  | _ => none
def kindsSpec : Spec
  | [.agg [x, .v (.slice none 0 0), .v (.slice none 0 0)]] => match itemsOf x with
    | some l => some [.agg (row6 (kcount l zero6))]
    | none => none
  | _ => none
theorem kinds_nil12 : symV C0 noO 60 12 [.agg [dnil, dnil, dnil]] [] = some ([.agg (row6 zero6)], [], []) := by kernel_rfl
theorem kinds_nil13 : symV C0 noO 60 13 [.agg [dnil, dnil, dnil]] [] = some ([.agg (row6 zero6)], [], []) := by kernel_rfl
theorem kinds_any {g : FuncId} (h0 : symV C0 noO 60 g [.agg [dnil, dnil, dnil]] [] = some ([.agg (row6 zero6)], [], []))
    (h1 : ∀ (full : Bool) (l : List Itm), l.length < 2 ^ 40 → ∃ h1, Ev C0 noO (.call g [.agg [.d (.sl 7 full (rowsT l)), .d dnil, .d dnil]] {}) (.val (.agg (cells6 (kcount l zero6))) h1)) : Sat C0 g kindsSpec :=
  sat_of_ev (O := noO) hP0 (fun _ _ h => h.elim) hm0 fun ps rs hs => by
    unfold kindsSpec at hs
    split at hs
    · rename_i x
      split at hs
      · rename_i l hl
        simp only [Option.some.injEq] at hs
        subst hs
        unfold itemsOf at hl
        split at hl
        · simp only [Option.some.injEq] at hl
          subst hl
          exact symV_ev h0 AllP_nil
        · rename_i f rows
          split at hl
          · rename_i l' hl'
            split at hl
            · rename_i hb
              simp only [Option.some.injEq] at hl
              subst hl
              rw [itms_eq hl']
              obtain ⟨h2, he⟩ := h1 f l' hb
              exact ⟨_, h2, h2, he, rfl⟩
            · cases hl
          · cases hl
        · cases hl
      · cases hs
    · cases hs
theorem kinds12_sat : Sat C0 12 kindsSpec := kinds_any kinds_nil12 ev12
theorem kinds13_sat : Sat C0 13 kindsSpec := kinds_any kinds_nil13 ev13
end Go.Ev

namespace Go.Ev
open Go Go.RowKit Go.Proofs
noncomputable def C7 : Ctx := addSpec (addSpec (addSpec C0 9 awakeSpec) 12 kindsSpec) 13 kindsSpec
theorem hP7 : PrimOK C7 := addSpec_ok (addSpec_ok (addSpec_ok hP0 awake_sat (by kernel_rfl)) (kinds12_sat.ctx rfl rfl) (by kernel_rfl)) (kinds13_sat.ctx rfl rfl) (by kernel_rfl)
end Go.Ev

namespace Go.Ev
open Go Go.RowKit Go.Proofs

theorem la_yL (full : Bool) (rows : List (List DV)) (i : Int) (i11 : Int) (k : Int) (i14 : Int) (x : X) (s : St) (h1 : ↑(List.length rows) = i11) (h2 : decide (i < i11) = true) (h3 : 0 ≤ i ∧ rows[Int.toNat i]? = some [di k]) (h4 : wr64 (i + 1) = i14) (h5 : Ev C7 noO (Task.code 5 false (loopOf Tryz.prog 5 0) { σ := slots 33 [(0, AV.d (DV.sl 1 full rows)), (3, AV.ptr 40963 0 0), (4, vi i14)], h := { objs := [(40963, 1, [AO.cells [AV.st 7 [[di k, di 0, di 0, di 0, DV.v (Value.int IntKind.u64 0), DV.v (Value.int IntKind.u64 0), di 0]] 40983 1, AV.d (DV.v (Value.slice none 0 0)), AV.d (DV.v (Value.slice none 0 0))] false])], toks := [(40983, 1)] } }) (Res.code x s)) :
    Ev C7 noO (Task.code 5 false (loopOf Tryz.prog 5 0) { σ := slots 33 [(0, AV.d (DV.sl 1 full rows)), (3, AV.ptr (site 5 3) 0 0), (4, vi i)], h := H.push { } (site 5 3) (AO.cells [AV.d dnil, AV.d dnil, AV.d dnil] false) }) (.code (x) s) :=
  sym_ev 60 _ [(site 5 11, Dec.int i11), (site 5 12, Dec.b true), (site 5 19, Dec.row [di k]), (site 5 14, Dec.int i14), (site 5 8001, Dec.loop [0, 3, 4] x s)] _ [] _ (by kernel_rfl) (AllP_cons h1 (AllP_cons h2 (AllP_cons h3 (AllP_cons h4 (AllP_cons h5 AllP_nil)))))
theorem la_n (full : Bool) (rows : List (List DV)) (i : Int) (i11 : Int) (h1 : ↑(List.length rows) = i11) (h2 : decide (i < i11) = false) :
    Ev C7 noO (Task.code 5 false (loopOf Tryz.prog 5 0) { σ := slots 33 [(0, AV.d (DV.sl 1 full rows)), (3, AV.ptr (site 5 3) 0 0), (4, vi i)], h := H.push { } (site 5 3) (AO.cells [AV.d dnil, AV.d dnil, AV.d dnil] false) }) (.code (X.exit 0) { σ := slots 33 [(3, AV.ptr 40963 0 0)], h := { objs := [(40963, 1, [AO.cells [AV.d (DV.v (Value.slice none 0 0)), AV.d (DV.v (Value.slice none 0 0)), AV.d (DV.v (Value.slice none 0 0))] false])] } }) :=
  symM_ev (n := 60) (sc := [(site 5 11, Dec.int i11), (site 5 12, Dec.b false)]) (keep := [3]) (sc' := []) (by kernel_rfl) (AllP_cons h1 (AllP_cons h2 AllP_nil))
theorem lb_yL (full : Bool) (rows : List (List DV)) (i : Int) (out : List (List DV)) (g : Nat) (i11 : Int) (k : Int) (i14 : Int) (x : X) (s : St) (h1 : ↑(List.length rows) = i11) (h2 : decide (i < i11) = true) (h3 : 0 ≤ i ∧ rows[Int.toNat i]? = some [di k]) (h4 : false = false ∧ g = g ∧ fitsP (List.length out) 1 56) (h5 : wr64 (i + 1) = i14) (h6 : Ev C7 noO (Task.code 5 false (loopOf Tryz.prog 5 0) { σ := slots 33 [(0, AV.d (DV.sl 1 full rows)), (3, AV.ptr 40963 0 0), (4, vi i14)], h := { objs := [(40963, 1, [AO.cells [AV.st 7 (out ++ [[di k, di 0, di 0, di 0, DV.v (Value.int IntKind.u64 0), DV.v (Value.int IntKind.u64 0), di 0]]) 40983 (g + 1 + 1), AV.d (DV.v (Value.slice none 0 0)), AV.d (DV.v (Value.slice none 0 0))] false])], toks := [(40983, g + 1 + 1)] } }) (Res.code x s)) :
    Ev C7 noO (Task.code 5 false (loopOf Tryz.prog 5 0) { σ := slots 33 [(0, AV.d (DV.sl 1 full rows)), (3, AV.ptr (site 5 3) 0 0), (4, vi i)], h := H.push { toks := [(site 5 23, g)] } (site 5 3) (AO.cells [AV.st 7 out (site 5 23) g, AV.d dnil, AV.d dnil] false) }) (.code (x) s) :=
  sym_ev 60 _ [(site 5 11, Dec.int i11), (site 5 12, Dec.b true), (site 5 19, Dec.row [di k]), (site 5 23, Dec.app false), (site 5 14, Dec.int i14), (site 5 8001, Dec.loop [0, 3, 4] x s)] _ [] _ (by kernel_rfl) (AllP_cons h1 (AllP_cons h2 (AllP_cons h3 (AllP_cons h4 (AllP_cons h5 (AllP_cons h6 AllP_nil))))))
theorem lb_n (full : Bool) (rows : List (List DV)) (i : Int) (out : List (List DV)) (g : Nat) (i11 : Int) (h1 : ↑(List.length rows) = i11) (h2 : decide (i < i11) = false) :
    Ev C7 noO (Task.code 5 false (loopOf Tryz.prog 5 0) { σ := slots 33 [(0, AV.d (DV.sl 1 full rows)), (3, AV.ptr (site 5 3) 0 0), (4, vi i)], h := H.push { toks := [(site 5 23, g)] } (site 5 3) (AO.cells [AV.st 7 out (site 5 23) g, AV.d dnil, AV.d dnil] false) }) (.code (X.exit 0) { σ := slots 33 [(3, AV.ptr 40963 0 0)], h := { objs := [(40963, 1, [AO.cells [AV.st 7 out 40983 g, AV.d (DV.v (Value.slice none 0 0)), AV.d (DV.v (Value.slice none 0 0))] false])], toks := [(40983, g)] } }) :=
  symM_ev (n := 60) (sc := [(site 5 11, Dec.int i11), (site 5 12, Dec.b false)]) (keep := [3]) (sc' := []) (by kernel_rfl) (AllP_cons h1 (AllP_cons h2 AllP_nil))
theorem lc_y (full : Bool) (rows : List (List DV)) (rs : List PV) (i6 : Int) (h1 : ↑(List.length rows) = i6) (h2 : decide (i6 > 200) = true) :
    Ev C7 noO (Task.call 5 [AV.d (DV.sl 1 full rows)] { }) (.val (vb true) { }) :=
  sym_ev 60 _ [(site 5 6, Dec.int i6), (site 5 7, Dec.b true)] _ [] _ (by kernel_rfl) (AllP_cons h1 (AllP_cons h2 AllP_nil))
theorem lc_nl1 (full : Bool) (rows : List (List DV)) (rs : List PV) (i6 : Int) (h1 : ↑(List.length rows) = i6) (h2 : decide (i6 > 200) = false) (h3 : Ev C7 noO (Task.code 5 false (loopOf Tryz.prog 5 0) { σ := slots 33 [(0, AV.d (DV.sl 1 full rows)), (3, AV.ptr 40963 0 0), (4, vi 0)], h := { objs := [(40963, 1, [AO.cells [AV.d (DV.v (Value.slice none 0 0)), AV.d (DV.v (Value.slice none 0 0)), AV.d (DV.v (Value.slice none 0 0))] false])] } }) (Res.code (X.exit 0) { σ := slots 33 [(3, AV.ptr (site 5 3) 0 0)], h := H.push { } (site 5 3) (AO.cells [AV.d dnil, AV.d dnil, AV.d dnil] false) })) :
    Ev C7 noO (Task.call 5 [AV.d (DV.sl 1 full rows)] { }) (.val (vb true) { objs := [(40963, 1, [AO.cells [AV.d (DV.v (Value.slice none 0 0)), AV.d (DV.v (Value.slice none 0 0)), AV.d (DV.v (Value.slice none 0 0))] false])] }) :=
  sym_ev 60 _ [(site 5 6, Dec.int i6), (site 5 7, Dec.b false), (site 5 8001, Dec.loop [0, 3, 4] (X.exit 0) { σ := slots 33 [(3, AV.ptr (site 5 3) 0 0)], h := H.push { } (site 5 3) (AO.cells [AV.d dnil, AV.d dnil, AV.d dnil] false) })] _ [] _ (by kernel_rfl) (AllP_cons h1 (AllP_cons h2 (AllP_cons h3 AllP_nil)))
theorem lc_nl2 (full : Bool) (rows : List (List DV)) (rs : List PV) (i6 : Int) (out : List (List DV)) (g : Nat) (c : Nat → Int) (c2 : Nat → Int) (h1 : ↑(List.length rows) = i6) (h2 : decide (i6 > 200) = false) (h3 : Ev C7 noO (Task.code 5 false (loopOf Tryz.prog 5 0) { σ := slots 33 [(0, AV.d (DV.sl 1 full rows)), (3, AV.ptr 40963 0 0), (4, vi 0)], h := { objs := [(40963, 1, [AO.cells [AV.d (DV.v (Value.slice none 0 0)), AV.d (DV.v (Value.slice none 0 0)), AV.d (DV.v (Value.slice none 0 0))] false])] } }) (Res.code (X.exit 0) { σ := slots 33 [(3, AV.ptr (site 5 3) 0 0)], h := H.push { toks := [(site 5 23, g)] } (site 5 3) (AO.cells [AV.st 7 out (site 5 23) g, AV.d dnil, AV.d dnil] false) })) (h4 : kindsSpec [PV.agg [DV.sl 7 false out, DV.v (Value.slice none 0 0), DV.v (Value.slice none 0 0)]] = some [PV.agg [di (c 0), di (c 1), di (c 2), di (c 3), di (c 4), di (c 5)]]) (h5 : kindsSpec [PV.agg [DV.sl 7 false out, DV.v (Value.slice none 0 0), DV.v (Value.slice none 0 0)]] = some [PV.agg [di (c2 0), di (c2 1), di (c2 2), di (c2 3), di (c2 4), di (c2 5)]]) (h6 : still C7.P (Op.equal 60 (Value.agg #[Value.int IntKind.i64 (c 0), Value.int IntKind.i64 (c 1), Value.int IntKind.i64 (c 2), Value.int IntKind.i64 (c 3), Value.int IntKind.i64 (c 4), Value.int IntKind.i64 (c 5)]) (Value.agg #[Value.int IntKind.i64 (c2 0), Value.int IntKind.i64 (c2 1), Value.int IntKind.i64 (c2 2), Value.int IntKind.i64 (c2 3), Value.int IntKind.i64 (c2 4), Value.int IntKind.i64 (c2 5)])) = some true) :
    Ev C7 noO (Task.call 5 [AV.d (DV.sl 1 full rows)] { }) (.val (vb true) { objs := [(40963, 1, [AO.cells [AV.st 7 out 40983 g, AV.d (DV.v (Value.slice none 0 0)), AV.d (DV.v (Value.slice none 0 0))] false])], toks := [(40983, g)] }) :=
  sym_ev 60 _ [(site 5 6, Dec.int i6), (site 5 7, Dec.b false), (site 5 8001, Dec.loop [0, 3, 4] (X.exit 0) { σ := slots 33 [(3, AV.ptr (site 5 3) 0 0)], h := H.push { toks := [(site 5 23, g)] } (site 5 3) (AO.cells [AV.st 7 out (site 5 23) g, AV.d dnil, AV.d dnil] false) }), (site 5 28, Dec.prim [PV.agg (row6 c)]), (site 5 30, Dec.prim [PV.agg (row6 c2)]), (site 5 31, Dec.eqv true)] _ [] _ (by kernel_rfl) (AllP_cons h1 (AllP_cons h2 (AllP_cons h3 (AllP_cons h4 (AllP_cons h5 (AllP_cons h6 AllP_nil))))))

end Go.Ev

namespace Go.Ev
open Go Go.RowKit Go.Proofs

theorem still_program {P : Program} : still P program = some P := rfl
theorem still_pure {P : Program} {α : Type} (a : α) : still P (pure a : Sem α) = some a := rfl
theorem still_und {P : Program} {t : TypeId} {td : TypeDesc} (h : P.underlying t = some td) : still P (underlying t) = some td := by
  simp only [underlying, still_bind, still_program, h, still_pure]
def eqFields (P : Program) (d : Nat) (xs ys : Array Value) : List Field → Option Bool
  | [] => some true
  | f :: r => if f.name = "_" then eqFields P d xs ys r else
    match still P (part f.type xs f.offset), still P (part f.type ys f.offset) with
    | some x, some y => match still P (Op.equalIn d f.type x y) with
      | some true => eqFields P d xs ys r
      | some false => some false
      | none => none
    | _, _ => none

theorem eq_struct {P : Program} {t : TypeId} {fs : Array Field} (h : P.underlying t = some (.struct fs)) (hs : P.stoodInHeld t = false) (d : Nat) (xs ys : Array Value) :
    still P (Op.equalIn (d + 1) t (.agg xs) (.agg ys)) = eqFields P d xs ys fs.toList := by
  rw [Op.equalIn]
  simp only [still_bind, still_und h, still_program, hs, Bool.false_eq_true, if_false, still_pure]
  rw [← Array.forIn_toList]
  generalize fs.toList = l
  induction l with
  | nil => simp [still_pure, eqFields]
  | cons f r ih =>
    simp only [List.forIn_cons, eqFields]
    by_cases hn : f.name = "_"
    · simp only [hn, ne_eq, not_true_eq_false, if_false, if_true, still_bind, still_pure]
      exact ih
    · simp only [hn, ne_eq, not_false_eq_true, if_false, if_true, still_bind]
      cases h1 : still P (part f.type xs f.offset) with
      | none => rfl
      | some x =>
        cases h2 : still P (part f.type ys f.offset) with
        | none => rfl
        | some y =>
          simp only
          cases h3 : still P (Op.equalIn d f.type x y) with
          | none => rfl
          | some b =>
            cases b with
            | false => simp [still_pure]
            | true =>
              simp only [Bool.not_true, Bool.false_eq_true, if_false, still_pure, still_bind]
              exact ih

/-- fields as the comparison sees them -/
def eqParts (P : Program) (d : Nat) (xs ys : Array Value) : List (TypeId × Nat) → Option Bool
  | [] => some true
  | (t, o) :: r =>
    match still P (part t xs o), still P (part t ys o) with
    | some x, some y => match still P (Op.equalIn d t x y) with
      | some true => eqParts P d xs ys r
      | some false => some false
      | none => none
    | _, _ => none
def fieldsOf (P : Program) (t : TypeId) : List (TypeId × Nat) := match P.underlying t with
  | some (.struct fs) => if fs.toList.all (fun f => !(f.name == "_")) && !P.stoodInHeld t then fs.toList.map fun f => (f.type, f.offset) else []
  | _ => []
theorem eqFields_parts {P : Program} {d : Nat} {xs ys : Array Value} : ∀ (l : List Field), (l.all fun f => !(f.name == "_")) = true → eqFields P d xs ys l = eqParts P d xs ys (l.map fun f => (f.type, f.offset))
  | [], _ => rfl
  | f :: r, h => by
    simp only [List.all_cons, Bool.and_eq_true, Bool.not_eq_true', beq_eq_false_iff_ne, ne_eq] at h
    simp only [eqFields, h.1, if_false, List.map_cons, eqParts, eqFields_parts r h.2]
theorem eq_struct' {P : Program} {t : TypeId} (h : (fieldsOf P t).isEmpty = false) (d : Nat) (xs ys : Array Value) :
    still P (Op.equalIn (d + 1) t (.agg xs) (.agg ys)) = eqParts P d xs ys (fieldsOf P t) := by
  unfold fieldsOf at h ⊢
  split at h
  · rename_i fs e
    split at h
    · rename_i hc
      simp only [Bool.and_eq_true, Bool.not_eq_true'] at hc
      rw [if_pos (by simpa using hc), eq_struct e hc.2, eqFields_parts _ hc.1]
    · cases h
  · cases h

theorem eq_intK {P : Program} {t : TypeId} {k : IntKind} (h : P.underlying t = some (.int k)) (d : Nat) (a b : Int) : still P (Op.equalIn (d + 1) t (.int k a) (.int k b)) = some (a == b) := by
  simp only [Op.equalIn, still_bind, still_und h]
  simp [still_pure]
theorem eq_boolK {P : Program} {t : TypeId} (h : P.underlying t = some .bool) (d : Nat) (a b : Bool) : still P (Op.equalIn (d + 1) t (.bool a) (.bool b)) = some (a == b) := by
  simp only [Op.equalIn, still_bind, still_und h]
  simp [still_pure]
theorem und3 : Tryz.prog.underlying 3 = some (.int .i64) := by kernel_rfl
theorem und39 : Tryz.prog.underlying 39 = some (.int .u64) := by kernel_rfl
theorem und4 : Tryz.prog.underlying 4 = some .bool := by kernel_rfl
theorem und60 : Tryz.prog.underlying 60 = some (.array 6 3) := by kernel_rfl
theorem size3 : still Tryz.prog (sizeOf 3) = some 1 := by kernel_rfl
def val6 (c : Nat → Int) : Value := .agg #[.int .i64 (c 0), .int .i64 (c 1), .int .i64 (c 2), .int .i64 (c 3), .int .i64 (c 4), .int .i64 (c 5)]
theorem part6_0 (a b c d e f : Int) : still Tryz.prog (part 3 #[.int .i64 a, .int .i64 b, .int .i64 c, .int .i64 d, .int .i64 e, .int .i64 f] 0) = some (.int .i64 a) := by kernel_rfl
theorem part6_1 (a b c d e f : Int) : still Tryz.prog (part 3 #[.int .i64 a, .int .i64 b, .int .i64 c, .int .i64 d, .int .i64 e, .int .i64 f] 1) = some (.int .i64 b) := by kernel_rfl
theorem part6_2 (a b c d e f : Int) : still Tryz.prog (part 3 #[.int .i64 a, .int .i64 b, .int .i64 c, .int .i64 d, .int .i64 e, .int .i64 f] 2) = some (.int .i64 c) := by kernel_rfl
theorem part6_3 (a b c d e f : Int) : still Tryz.prog (part 3 #[.int .i64 a, .int .i64 b, .int .i64 c, .int .i64 d, .int .i64 e, .int .i64 f] 3) = some (.int .i64 d) := by kernel_rfl
theorem part6_4 (a b c d e f : Int) : still Tryz.prog (part 3 #[.int .i64 a, .int .i64 b, .int .i64 c, .int .i64 d, .int .i64 e, .int .i64 f] 4) = some (.int .i64 e) := by kernel_rfl
theorem part6_5 (a b c d e f : Int) : still Tryz.prog (part 3 #[.int .i64 a, .int .i64 b, .int .i64 c, .int .i64 d, .int .i64 e, .int .i64 f] 5) = some (.int .i64 f) := by kernel_rfl
theorem eq60 (c : Nat → Int) : still Tryz.prog (Op.equal 60 (val6 c) (val6 c)) = some true := by
  show still Tryz.prog (Op.equalIn (9998 + 1 + 1) 60 (val6 c) (val6 c)) = _
  unfold val6
  rw [Op.equalIn]
  simp only [still_bind, still_und und60, size3]
  simp only [Std.Legacy.Range.forIn_eq_forIn_range', Std.Legacy.Range.size, Nat.sub_zero, Nat.add_sub_cancel, Nat.div_one, List.range'_succ, List.range'_zero, List.forIn_cons, List.forIn_nil, still_bind, Nat.zero_mul, Nat.zero_add, Nat.mul_one, part6_0, part6_1, part6_2, part6_3, part6_4, part6_5, eq_intK und3]
  simp [still_bind, still_pure, part6_1, part6_2, part6_3, part6_4, part6_5, eq_intK und3]
end Go.Ev

namespace Go.Ev
open Go Go.RowKit Go.Proofs

def rowsI (l : List Int) : List (List DV) := l.map fun a => [di a]
def itmK (k : Int) : Itm := ⟨k, 0, 0, 0, 0, 0, 0⟩
def hd5a (sl : DV) (i : Int) : St := { σ := slots 33 [(0, .d sl), (3, .ptr (site 5 3) 0 0), (4, vi i)], h := (({} : H).push (site 5 3) (.cells [.d dnil, .d dnil, .d dnil] false)) }
def hd5b (sl : DV) (i : Int) (out : List (List DV)) (g : Nat) : St := { σ := slots 33 [(0, .d sl), (3, .ptr (site 5 3) 0 0), (4, vi i)], h := ({ toks := [(site 5 23, g)] } : H).push (site 5 3) (.cells [.st 7 out (site 5 23) g, .d dnil, .d dnil] false) }
def out5b (out : List (List DV)) (g : Nat) : St := { σ := slots 33 [(3, .ptr (site 5 3) 0 0)], h := ({ toks := [(site 5 23, g)] } : H).push (site 5 3) (.cells [.st 7 out (site 5 23) g, .d dnil, .d dnil] false) }
theorem ev5_loop (full : Bool) : ∀ (rest pre : List Int) (g : Nat), (pre ++ rest).length < 2 ^ 20 → ∃ g', 
    Ev C7 noO (.code 5 false (loopOf Tryz.prog 5 0) (hd5b (.sl 1 full (rowsI (pre ++ rest))) (pre.length : Nat) (rowsT (pre.map itmK)) g)) (.code (.exit 0) (out5b (rowsT ((pre ++ rest).map itmK)) g'))
  | [], pre, g, hb => ⟨g, by
    have := lb_n full (rowsI (pre ++ [])) ((pre.length : Nat) : Int) (rowsT (pre.map itmK)) g _ rfl (by simp [rowsI])
    simp only [List.append_nil] at this ⊢
    exact this⟩
  | k :: rest, pre, g, hb => by
    have hrow : (rowsI (pre ++ k :: rest))[((pre.length : Nat) : Int).toNat]? = some [di k] := by simp [rowsI]
    obtain ⟨g', ih⟩ := ev5_loop full rest (pre ++ [k]) (g + 1 + 1) (by simpa using hb)
    simp only [List.append_assoc, List.singleton_append, List.length_append, List.length_singleton] at ih
    refine ⟨g', lb_yL full _ _ _ g _ k ((pre.length + 1 : Nat) : Int) _ _ rfl (decide_eq_true (Int.ofNat_lt.2 (by simp [rowsI]))) ⟨by omega, hrow⟩ ⟨rfl, rfl, ?_⟩ (wrap_succ (by simp at hb; omega)) ?_⟩
    · simp only [fitsP, rowsT, List.length_map]
      simp at hb
      omega
    · have e : rowsT (List.map itmK pre) ++ [[di k, di 0, di 0, di 0, DV.v (Value.int IntKind.u64 0), DV.v (Value.int IntKind.u64 0), di 0]] = rowsT ((pre ++ [k]).map itmK) := by
        simp [rowsT, itmK, Itm.row, du]
      rw [e]
      exact ih
def intRow : List DV → Option Int
  | [.v (.int .i64 a)] => some a
  | _ => none
def listI : DV → Option (List Int)
  | .v (.slice none 0 0) => some []
  | .sl 1 _ rows => match allSome intRow rows with
    | some l => some l
    | none => none
  | _ => none
theorem rowsI_eq {rows : List (List DV)} {l : List Int} (h : allSome intRow rows = some l) : rows = rowsI l := by
  induction rows generalizing l with
  | nil => simp [allSome] at h; subst h; rfl
  | cons r rows ih =>
    simp only [allSome] at h
    split at h
    · cases h
    · rename_i b hb
      split at h
      · cases h
      · rename_i l' hl'
        simp only [Option.some.injEq] at h
        subst h
        simp only [rowsI, List.map_cons]
        rw [ih hl']
        unfold intRow at hb
        split at hb
        · simp only [Option.some.injEq] at hb
          subst hb; rfl
        · cases hb
def law5Spec : Spec
  | [.one x] => match listI x with
    | some _ => some [pbool true]
    | none => none
  | _ => none
theorem law5_nil : symV C7 noO 60 5 [nilPV] [(5 * 8192 + 31, .eqv true)] = some ([pbool true], [], [still Tryz.prog (Op.equal 60 (val6 zero6) (val6 zero6)) = some true]) := by kernel_rfl
theorem law5_sat : Sat C0 5 law5Spec := by
  refine Sat.ctx (C := C7) rfl rfl (sat_of_ev (O := noO) hP7 (fun _ _ h => h.elim) hm0 fun ps rs hs => ?_)
  unfold law5Spec at hs
  split at hs
  · rename_i x
    split at hs
    · rename_i l hl
      simp only [Option.some.injEq] at hs
      subst hs
      unfold listI at hl
      split at hl
      · exact symV_ev law5_nil (AllP_cons (eq60 _) AllP_nil)
      · rename_i full rows
        split at hl
        · rename_i l' hl'
          simp only [Option.some.injEq] at hl
          subst hl
          rw [rowsI_eq hl']
          by_cases h200 : l'.length > 200
          · exact ⟨_, _, _, lc_y full _ [] ((l'.length : Nat) : Int) (by simp [rowsI]) (decide_eq_true (by omega)), rfl⟩
          · match l', h200 with
            | [], _ => exact ⟨_, _, _, lc_nl1 full _ [] _ rfl (decide_eq_false (by simp [rowsI])) (la_n full _ _ _ rfl (by simp [rowsI])), rfl⟩
            | k :: r, h200 =>
              obtain ⟨g', h⟩ := ev5_loop full r [k] 1 (by simp at h200 ⊢; omega)
              have h0 := la_yL full (rowsI (k :: r)) 0 _ k 1 _ _ rfl (decide_eq_true (by simp [rowsI])) ⟨by omega, by simp [rowsI]⟩ (by show IntKind.i64.wrap (0 + 1) = 1; rw [wrap_ok (by omega) (by omega)]; rfl) h
              have hk : kindsSpec [PV.agg [DV.sl 7 false (rowsT (([k] ++ r).map itmK)), dnil, dnil]] = some [PV.agg (row6 (kcount (([k] ++ r).map itmK) zero6))] := by
                have e : itemsOf (DV.sl 7 false (rowsT (([k] ++ r).map itmK))) = some (([k] ++ r).map itmK) := by
                  have : ∀ l : List Itm, allSome itmOf (rowsT l) = some l := by
                    intro l
                    induction l with
                    | nil => rfl
                    | cons x l ih =>
                      simp only [rowsT, List.map_cons, allSome, itmOf_row]
                      unfold rowsT at ih
                      rw [ih]
                  simp only [itemsOf, this]
                  rw [if_pos (by simp at h200 ⊢; omega)]
                simp only [kindsSpec, dnil, e]
              exact ⟨_, _, _, lc_nl2 full _ [] _ _ g' _ _ rfl (decide_eq_false (by simp [rowsI]; simp at h200; omega)) h0 hk hk (eq60 _), rfl⟩
        · cases hl
      · cases hl
    · cases hs
  · cases hs
end Go.Ev

namespace Go.Ev
open Go Go.RowKit Go.Proofs Go.Proofs.YtbgdnghnfdijnaaGreatDoor Go.ChangeShapes Go.WideShapes Go.ChangeAt

theorem own : ownKnob Tryz.prog.godebug = none := by kernel_rfl
theorem t_spans : (Tryz.prog.globals[0]?).map (·.type) = some 266 := by kernel_rfl
theorem t_empty : (Tryz.prog.globals[1]?).map (·.type) = some 117 := by kernel_rfl
theorem t_weights : (Tryz.prog.globals[2]?).map (·.type) = some 295 := by kernel_rfl
theorem u266 : Tryz.prog.underlying 266 = some (.array 5 71) := by kernel_rfl
theorem u71 : Tryz.prog.underlying 71 = some (.array 2 3) := by kernel_rfl
theorem u295 : Tryz.prog.underlying 295 = some (.array 40 3) := by kernel_rfl
theorem co3 : Tryz.prog.cellsOf 3 = 1 := by kernel_rfl
theorem co4 : Tryz.prog.cellsOf 4 = 1 := by kernel_rfl
theorem co39 : Tryz.prog.cellsOf 39 = 1 := by kernel_rfl
theorem co71 : Tryz.prog.cellsOf 71 = 2 := by kernel_rfl
theorem co266 : Tryz.prog.cellsOf 266 = 10 := by kernel_rfl
theorem co295 : Tryz.prog.cellsOf 295 = 40 := by kernel_rfl
theorem co117 : Tryz.prog.cellsOf 117 = 6 := by kernel_rfl

section
variable {H : Type} {enc : TypeId × Value → H} {W : World} {base : Nat} {sp : Nat → Bool} {hd : Bool} {n : Nat}
theorem trod3_eq {cs : List Value} {a : Int} {p : List MemPlace} (h : DataW.trod enc Tryz.prog W base sp hd n 3 cs = some (.lit (.int .i64 a), p)) : cs = [.int .i64 a] := by
  obtain ⟨b, h1, h2, _⟩ := DataW.trod_int und3 h
  simp only [Prod.mk.injEq, DataW.lit.injEq, Lit.int.injEq] at h2
  rw [h1, h2.1.2]
theorem trod39_eq {cs : List Value} {a : Int} {p : List MemPlace} (h : DataW.trod enc Tryz.prog W base sp hd n 39 cs = some (.lit (.int .u64 a), p)) : cs = [.int .u64 a] := by
  obtain ⟨b, h1, h2, _⟩ := DataW.trod_int und39 h
  simp only [Prod.mk.injEq, DataW.lit.injEq, Lit.int.injEq] at h2
  rw [h1, h2.1.2]
theorem trod4_eq {cs : List Value} {a : Bool} {p : List MemPlace} (h : DataW.trod enc Tryz.prog W base sp hd n 4 cs = some (.lit (.bool a), p)) : cs = [.bool a] := by
  obtain ⟨b, h1, h2⟩ := DataW.trod_bool und4 h
  simp only [Prod.mk.injEq, DataW.lit.injEq, Lit.bool.injEq] at h2
  rw [h1, h2.1]
/-- a row of numbers -/
theorem trod_ints {t k : Nat} {cs : List Value} {l : List Int} {p : List MemPlace} (ht : Tryz.prog.underlying t = some (.array k 3)) (hc : Tryz.prog.cellsOf t = k)
    (h : DataW.trod enc Tryz.prog W base sp hd n t cs = some (.agg (l.map fun i => .lit (.int .i64 i)), p)) : cs = l.map (.int .i64) := by
  obtain ⟨xs, m, _, hx, hl, hn, hel⟩ := DataW.trod_array ht h
  simp only [Prod.mk.injEq, DataW.agg.injEq] at hx
  have hll : l.length = k := by
    have := congrArg List.length hx.1
    simp at this; omega
  apply List.ext_getElem?
  intro i
  by_cases hi : i < k
  · have e := hel i hi
    rw [co3] at e
    have hxi : ∃ x, xs[i]? = some x := ⟨_, List.getElem?_eq_getElem (by omega)⟩
    obtain ⟨⟨d, q⟩, hxi⟩ := hxi
    rw [hxi] at e
    have hd' : (xs.map (·.1))[i]? = some d := by simp [hxi]
    rw [← hx.1] at hd'
    have hli : l[i]? = some l[i] := List.getElem?_eq_getElem (by omega)
    simp only [List.getElem?_map, hli, Option.map_some, Option.some.injEq] at hd'
    subst hd'
    have := trod3_eq e
    simp only [Nat.mul_one] at this
    have h0 : ((cs.drop i).take 1)[0]? = some (.int .i64 l[i]) := by rw [this]; rfl
    simp only [List.getElem?_map, hli, Option.map_some]
    rw [List.getElem?_take_of_lt (by omega), List.getElem?_drop] at h0
    simpa using h0
  · rw [List.getElem?_eq_none (by omega), List.getElem?_eq_none (by simp; omega)]
end

theorem len5 {α : Type} {l : List α} (h : l.length = 5) : ∃ a b c d e, l = [a, b, c, d, e] := by
  match l, h with
  | [a, b, c, d, e], _ => exact ⟨a, b, c, d, e, rfl⟩
theorem len6 {α : Type} {l : List α} (h : l.length = 6) : ∃ a b c d e f, l = [a, b, c, d, e, f] := by
  match l, h with
  | [a, b, c, d, e, f], _ => exact ⟨a, b, c, d, e, f, rfl⟩
theorem len10 {α : Type} {l : List α} (h : l.length = 10) : ∃ a b c d e f g i j k, l = [a, b, c, d, e, f, g, i, j, k] := by
  match l, h with
  | [a, b, c, d, e, f, g, i, j, k], _ => exact ⟨a, b, c, d, e, f, g, i, j, k, rfl⟩
section
variable {H : Type} {enc : TypeId × Value → H} {W : World} {base : Nat} {sp : Nat → Bool} {hd : Bool} {n : Nat}
theorem trod_spans {cs : List Value} {p : List MemPlace} (h : DataW.trod enc Tryz.prog W base sp hd n 266 cs = some (@Rows.laid_turnspit_packed_spans H, p)) : cs = [0, 3, 3, 9, 9, 10, 10, 26, 26, 58].map (.int .i64) := by
  obtain ⟨xs, m, _, hx, hl, hn, hel⟩ := DataW.trod_array u266 h
  rw [co266] at hl
  obtain ⟨a, b, c, d, e, f, g, i, j, k, rfl⟩ := len10 hl
  obtain ⟨⟨x0, y0⟩, ⟨x1, y1⟩, ⟨x2, y2⟩, ⟨x3, y3⟩, ⟨x4, y4⟩, rfl⟩ := len5 hn
  simp only [Rows.laid_turnspit_packed_spans, List.map_cons, List.map_nil, Prod.mk.injEq, DataW.agg.injEq, List.cons.injEq, and_true] at hx
  obtain ⟨⟨rfl, rfl, rfl, rfl, rfl⟩, _⟩ := hx
  have g0 := hel 0 (by omega)
  have g1 := hel 1 (by omega)
  have g2 := hel 2 (by omega)
  have g3 := hel 3 (by omega)
  have g4 := hel 4 (by omega)
  simp [co71] at g0 g1 g2 g3 g4
  have r0 := trod_ints (l := [0, 3]) u71 co71 g0
  have r1 := trod_ints (l := [3, 9]) u71 co71 g1
  have r2 := trod_ints (l := [9, 10]) u71 co71 g2
  have r3 := trod_ints (l := [10, 26]) u71 co71 g3
  have r4 := trod_ints (l := [26, 58]) u71 co71 g4
  simp at r0 r1 r2 r3 r4
  simp [r0, r1, r2, r3, r4]
theorem trod_empty {cs : List Value} {p : List MemPlace} (h : DataW.trod enc Tryz.prog W base sp hd n 117 cs = some (@Rows.laid_turnspit_tree_empty H, p)) : cs = [.bool false, .bool false, .int .u64 0, .int .i64 (-1), .int .i64 (-1), .int .i64 (-1)] := by
  obtain ⟨xs, m, _, hx, hl, hn, hel⟩ := DataW.trod_struct Tryz.underlying117 h
  rw [co117] at hl
  obtain ⟨a, b, c, d, e, f, rfl⟩ := len6 hl
  obtain ⟨⟨x0, y0⟩, ⟨x1, y1⟩, ⟨x2, y2⟩, ⟨x3, y3⟩, ⟨x4, y4⟩, ⟨x5, y5⟩, rfl⟩ := len6 (l := xs) hn
  simp only [Rows.laid_turnspit_tree_empty, List.map_cons, List.map_nil, Prod.mk.injEq, DataW.agg.injEq, List.cons.injEq, and_true] at hx
  obtain ⟨⟨rfl, rfl, rfl, rfl, rfl, rfl⟩, _⟩ := hx
  have g0 := hel 0 _ rfl
  have g1 := hel 1 _ rfl
  have g2 := hel 2 _ rfl
  have g3 := hel 3 _ rfl
  have g4 := hel 4 _ rfl
  have g5 := hel 5 _ rfl
  simp [co3, co4, co39] at g0 g1 g2 g3 g4 g5
  have r0 := trod4_eq g0
  have r1 := trod4_eq g1
  have r2 := trod39_eq g2
  have r3 := trod3_eq g3
  have r4 := trod3_eq g4
  have r5 := trod3_eq g5
  simp at r0 r1 r2 r3 r4 r5
  simp [r0, r1, r2, r3, r4, r5]
def weightsL : List Int := [88761, 71755, 56483, 46273, 36291, 29154, 23254, 18705, 14949, 11916, 9548, 7620, 6100, 4904, 3906, 3121, 2501, 1991, 1586, 1277, 1024, 820, 655, 526, 423, 335, 272, 215, 172, 137, 110, 87, 70, 56, 45, 36, 29, 23, 18, 15]
theorem trod_weights {cs : List Value} {p : List MemPlace} (h : DataW.trod enc Tryz.prog W base sp hd n 295 cs = some (@Rows.laid_turnspit_weight_weights H, p)) : cs = weightsL.map (.int .i64) :=
  trod_ints (l := weightsL) u295 co295 h
end
abbrev laidL : List (String × DataW Unit) := [("turnspit/packed.spans", Rows.laid_turnspit_packed_spans), ("turnspit/tree.empty", Rows.laid_turnspit_tree_empty), ("turnspit/weight.weights", Rows.laid_turnspit_weight_weights)]
/-- what the condition gives: the tables' cells -/
theorem glob_of_laid {W : World} (h : laidMetH Tryz.prog laidL W) : (∀ (j : Nat) x, ([0, 3, 3, 9, 9, 10, 10, 26, 26, 58].map (Value.int .i64))[j]? = some x → W.cell? (at_ 0 j) = some x) ∧
    (∀ (j : Nat) x, [Value.bool false, .bool false, .int .u64 0, .int .i64 (-1), .int .i64 (-1), .int .i64 (-1)][j]? = some x → W.cell? (at_ 1 j) = some x) ∧
    (∀ (j : Nat) x, (weightsL.map (Value.int .i64))[j]? = some x → W.cell? (at_ 2 j) = some x) := by
  rw [MakeChecks.laidMetH_plain _ _ _ (by kernel_rfl)] at h
  obtain ⟨ps, ⟨g0, t0, cs0, f0, p0, q0, hg0, ht0, hv0, hd0, ⟨g1, t1, cs1, f1, p1, q1, hg1, ht1, hv1, hd1, ⟨g2, t2, cs2, f2, p2, q2, hg2, ht2, hv2, hd2, _, _⟩, _⟩, _⟩, _, _⟩ := h
  obtain rfl := Option.some.inj (g_spans.symm.trans hg0)
  obtain rfl := Option.some.inj (g_empty.symm.trans hg1)
  obtain rfl := Option.some.inj (g_weights.symm.trans hg2)
  obtain rfl := Option.some.inj (t_spans.symm.trans ht0)
  obtain rfl := Option.some.inj (t_empty.symm.trans ht1)
  obtain rfl := Option.some.inj (t_weights.symm.trans ht2)
  have r0 := trod_spans hd0
  have r1 := trod_empty hd1
  have r2 := trod_weights hd2
  refine ⟨fun j x hx => ?_, fun j x hx => ?_, fun j x hx => ?_⟩
  · have := World.var?_cell hg0 hv0 j
    rw [← Array.getElem?_toList, r0] at this
    exact this.trans hx
  · have := World.var?_cell hg1 hv1 j
    rw [← Array.getElem?_toList, r1] at this
    exact this.trans hx
  · have := World.var?_cell hg2 hv2 j
    rw [← Array.getElem?_toList, r2] at this
    exact this.trans hx
end Go.Ev

namespace Go.Ev
open Go Go.RowKit Go.Proofs Go.Proofs.YtbgdnghnfdijnaaGreatDoor Go.ChangeShapes Go.WideShapes Go.ChangeAt

section
variable {H : Type} {enc : TypeId × Value → H} {P : Program}
theorem carryAll {w w' : World} {base : Nat} {sp : Nat → Bool} {held : Bool} : ∀ {ts : List TypeId} {vs : List Value} {ds : List (DataW H)} {ps : List MemPlace},
    DataW.TrodAll enc P w base sp held ts vs ds ps → (∀ p ∈ ps, w.sameAt w' p) → DataW.TrodAll enc P w' base sp held ts vs ds ps
  | [], [], [], _, h, _ => h
  | _ :: _, _ :: _, _ :: _, _, ⟨p, q, ⟨n, h1⟩, h2, e⟩, hs =>
    ⟨p, q, ⟨n, DataW.trod_carry n _ _ _ h1 (fun x hx => hs x (by rw [e]; exact List.mem_append_left _ hx))⟩, carryAll h2 (fun x hx => hs x (by rw [e]; exact List.mem_append_right _ hx)), e⟩
theorem sameAt_below {w w' : World} (hb : Below w.heap.size w w') {p : MemPlace} (hp : p.block < w.heap.size) : w.sameAt w' p := by
  cases p with
  | cell b off => exact World.cell?_of_block (w := w) (hb.block b hp)
  | map b => exact hb.block b hp

/-- the row's last step, where the function has written nothing that was there -/
theorem post_below {f : Func} {s : ChangeSpec} {apart fresh handsOn again : Bool} {W W' : World} {args : Array Value} {v : Value} {ds gs : List (DataW H)} {before : List MemPlace}
    (K : Kids P (· < P.types.size)) (hz : ∀ t e, t < P.types.size → P.underlying t = some (.slice e) → 0 < P.cellsOf e) (hts : ∀ t ∈ f.params.toList, t < P.types.size)
    (hW : DataW.Whole enc P f.params.toList s.vars apart W args.toList ds gs before) (hv : s.vars = [])
    (hargs : (s.fn H (ds ++ gs)).args = ds) (hvars : (s.fn H (ds ++ gs)).vars = [])
    (hres : ∀ (b : Nat) (sp : Nat → Bool) (hd : Bool), DataW.TrodAll enc P W' b sp hd f.resultTypes.toList (v.resultList f.resultTypes.size) (s.fn H (ds ++ gs)).results [])
    (hb : Below W.heap.size W W')
    (hok : ∀ (j : Nat) (t : TypeId) (r : Value), f.resultTypes[j]? = some t → (v.resultList f.resultTypes.size)[j]? = some r → Value.okWide P W' .any 0 t r) :
    s.post enc P f apart fresh handsOn again W args v W' := by
  have hlt : ∀ p ∈ before, p.block < W.heap.size := fun p hp => hW.lt p hp
  have hold : ∀ p ∈ before, (fun b => decide (b < W.heap.size)) p.block = true := fun p hp => by simpa using hlt p hp
  have hW' := hW
  obtain ⟨p, q, hA, hV, rfl, hfz, hnd⟩ := hW
  rw [hv] at hV
  obtain ⟨rfl, rfl⟩ := trodVars_none hV
  simp only [List.append_nil] at *
  have back : ∀ sp : Nat → Bool, (∀ x ∈ p, sp x.block = true) → DataW.TrodAll enc P W' 0 sp true f.params.toList args.toList (s.fn H ds).args p := by
    intro sp hsp
    rw [hargs]
    exact carryAll (DataW.TrodAll.respare K hz hts hA hsp) fun x hx => sameAt_below hb (hlt x hx)
  have vars : ∀ sp : Nat → Bool, DataW.TrodVars enc P W' sp s.vars (s.fn H ds).vars [] := by
    intro sp
    rw [hv, hvars]
    exact rfl
  refine ⟨ds, [], p, [], p, [], by simpa using hW', by simpa using hres _ _ _, by simpa using back _ hold, by simpa using vars _, World.keptBut_mono (fun x hx => ⟨hx, .inr (.inl (by simpa using hx))⟩) (hb.frame (· ∈ p)), fun _ => ?_⟩
  refine ⟨hok, _, _, ([] ++ p) ++ [], ⟨[] ++ p, [], trodAll_append (by simpa using back _ (fun _ _ => rfl)) (by simpa using hres _ _ _), by simpa using vars _, rfl, ?_, ?_⟩, ?_⟩
  · intro b off hp
    have hin : MemPlace.cell b off ∈ p := by simpa using hp
    rw [hb.frozen (hlt _ hin)]
    exact hfz b off hin
  · intro ha
    simpa using hnd ha
  · intro x hx _
    simpa using hx
end

abbrev FW (W : World) : Nat → Nat → Prop := fun b _ => b < W.heap.size
section
variable {H : Type} {enc : TypeId × Value → H} {W : World} {base : Nat} {sp : Nat → Bool} {hd : Bool} {n : Nat}
theorem cell_lt {b o : Nat} {x : Value} (h : W.cell? (at_ b o) = some x) : b < W.heap.size := by
  unfold World.cell? at h
  cases e : W.heap[b]? with
  | none => simp [e] at h
  | some x => exact (Array.getElem?_eq_some_iff.1 e).1


set_option maxRecDepth 100000 in
/-- a slice of rows of w cells -/
theorem rp_slice {α : Type} [Inst : Inhabited α] {t e w : Nat} {f : α → List Value} {g : α → List DV} (ht : Tryz.prog.underlying t = some (.slice e)) (hc : Tryz.prog.cellsOf e = w)
    (hfe : ∀ {n : Nat} {cs : List Value} {x : DataW H × List MemPlace}, DataW.trod enc Tryz.prog W 0 sp hd n e cs = some x → ∃ a, cs = f a)
    (hlen : ∀ a, (f a).length = w) (hglen : ∀ a, (g a).length = w) (hfg : ∀ a (j : Nat) x y, (f a)[j]? = some x → (g a)[j]? = some y → y = .v x ∧ one x = true)
    {v : Value} {d : DataW H} {p : List MemPlace} (hok : Value.okWide Tryz.prog W .any base t v) (h : DataW.Trod enc Tryz.prog W 0 sp hd t v d p) :
    v = .slice none 0 0 ∨ ∃ l : List α, RP (FW W) W (.one (.sl w false (l.map g))) v := by
  obtain ⟨n, h⟩ := h
  rcases Go.Deep.open_slice ht h with ⟨h1, h2⟩ | ⟨a, len, cap, m, k, D, Pl, h1, hb, hl, hm, hmm, h2, hx⟩
  · left
    unfold Value.okWide at hok
    rw [ht] at hok
    simp only [Cell.okWide, ht] at hok
    cases v <;> simp [Cell.ok, ht] at hok <;> simpa [Value.cells] using h1
  · right
    have hv : v = .slice (some a) len cap := by
      unfold Value.okWide at hok
      rw [ht] at hok
      simp only [Cell.okWide, ht] at hok
      cases v <;> simp [Cell.ok, ht] at hok <;> simpa [Value.cells] using h1
    subst hv
    have hspot : a.spot = none := by
      unfold Value.okWide at hok
      rw [ht] at hok
      simp only [Cell.okWide, ht, Cell.ok] at hok
      exact hok.2.2.2.1
    obtain ⟨b, o, s⟩ := a
    simp only at hspot
    subst hspot
    have hlm : len ≤ m := by rw [hmm]; split <;> omega
    obtain ⟨V, hV⟩ := Go.Deep.choose_lt (α := α) (p := fun i u => W.cells? 0 (Addr.add ⟨b, o, none⟩ (i * w)) w = some (f u)) (fun i hi => by
      obtain ⟨cs', q1, q2⟩ := hx i hi
      rw [hc] at q1
      obtain ⟨u, hu⟩ := hfe q2
      exact ⟨u, by rw [q1, hu]⟩)
    refine ⟨(List.range len).map V, .one _ _ ?_⟩
    have hrow : ∀ (i : Nat) (r : List DV), (((List.range len).map V).map g)[i]? = some r → i < len ∧ r = g (V i) := by
      intro i r hr
      by_cases hi : i < len
      · simp [hi] at hr
        exact ⟨hi, hr.symm⟩
      · simp [hi] at hr
    have hcell : ∀ i j : Nat, i < len → j < w → W.cell? (at_ b (o + i * w + j)) = some (((f (V i))[j]?).getD undef) := by
      intro i j hi hj
      obtain ⟨_, q2, q3⟩ := World.cells?_some (hV i (by omega))
      have := q3 j hj
      have hjl : j < (f (V i)).length := by rw [hlen]; exact hj
      rw [List.getElem?_eq_getElem hjl] at this ⊢
      rw [Option.getD_some, ← this]
      congr 1
      simp only [Addr.add, at_]
      split <;> split <;> simp_all <;> omega
    refine .sl w false _ b o len cap (fun i j => ((f (V i))[j]?).getD undef) (by simp) hl (fun h => by cases h) (fun i r hr => ?_) (fun i j r hr hj => ?_) (fun i j r y hr hy => ?_)
    · obtain ⟨_, rfl⟩ := hrow i r hr
      exact hglen _
    · obtain ⟨hi, rfl⟩ := hrow i r hr
      have := hcell i j hi hj
      exact ⟨this, cell_lt this⟩
    · obtain ⟨hi, rfl⟩ := hrow i r hr
      have hjw : j < w := by rw [← hglen (V i)]; exact (List.getElem?_eq_some_iff.1 hy).1
      have hjl : j < (f (V i)).length := by rw [hlen]; exact hjw
      have hx := List.getElem?_eq_getElem hjl
      obtain ⟨rfl, h1⟩ := hfg (V i) j _ y hx hy
      simp only [hx, Option.getD_some]
      exact .v _ h1

end

theorem one_get {l : List Value} (h : l.all one = true) {j : Nat} {x : Value} (e : l[j]? = some x) : one x = true := List.all_eq_true.1 h x (List.mem_of_getElem? e)
theorem glob_fw {C : Ctx} {W : World} (hG : C.glob = globs) (hL : laidMetH Tryz.prog laidL W) : GlobF C (FW W) W := by
  obtain ⟨k0, k1, k2⟩ := glob_of_laid hL
  have fin : ∀ (g : Nat) (row : List DV) (vs : List Value), row = vs.map DV.v → vs.all one = true → (∀ (j : Nat) x, vs[j]? = some x → W.cell? (at_ g j) = some x) →
      ∀ (j : Nat) (y : DV), row[j]? = some y → ∃ x, W.cell? (at_ g j) = some x ∧ FW W g j ∧ RD (FW W) W y x := by
    intro g row vs hr h1 hc j y hy
    subst hr
    simp only [List.getElem?_map, Option.map_eq_some_iff] at hy
    obtain ⟨x, hx, rfl⟩ := hy
    exact ⟨x, hc j x hx, cell_lt (hc j x hx), .v x (one_get h1 hx)⟩
  intro g row hg j y hy
  rw [hG] at hg
  unfold globs at hg
  split at hg
  · simp only [Option.some.injEq] at hg
    subst hg
    exact fin 0 _ _ rfl rfl k0 j y hy
  · simp only [Option.some.injEq] at hg
    subst hg
    exact fin 1 _ _ rfl rfl k1 j y hy
  · simp only [Option.some.injEq] at hg
    subst hg
    refine fin 2 _ (weightsL.map (Value.int .i64)) ?_ rfl k2 j y hy
    rfl
  · cases hg

theorem laidOut : laidOutB Tryz.prog = true := by kernel_rfl
theorem mapsRow : mapsRowed Tryz.prog = true := by kernel_rfl
theorem kids : Kids Tryz.prog (· < Tryz.prog.types.size) := kids_rows laidOut mapsRow
theorem slicesFull : ∀ t e, t < Tryz.prog.types.size → Tryz.prog.underlying t = some (.slice e) → 0 < Tryz.prog.cellsOf e := slices_full_of Tryz.prog (by kernel_rfl)

set_option maxRecDepth 100000 in
/-- what is known of a function that answers true, as the row wants it -/
theorem calls_true {C : Ctx} {g : FuncId} {f : Func} {spec : Go.Ev.Spec} (hC : C.P = Tryz.prog) (hG : C.glob = globs) (hs : Sat C g spec) {H : Type} {enc : TypeId × Value → H} {s : ChangeSpec} {W : World} {args : Array Value} {ds gs : List (DataW H)} {before : List MemPlace} {ps : List PV}
    (hts : ∀ t ∈ f.params.toList, t < Tryz.prog.types.size) (hrt : f.resultTypes = #[4]) (hW : DataW.Whole enc Tryz.prog f.params.toList s.vars false W args.toList ds gs before) (hv : s.vars = [])
    (hargs : (s.fn H (ds ++ gs)).args = ds) (hvars : (s.fn H (ds ++ gs)).vars = []) (hres : (s.fn H (ds ++ gs)).results = [.lit (.bool true)])
    (hps : RPs (FW W) W ps args.toList) (hL : laidMetH Tryz.prog laidL W) (hsp : spec ps = some [pbool true]) :
    Calls Tryz.prog g args W fun e W' => ∃ v, e = .returned v ∧ s.post enc Tryz.prog f false true false false W args v W' := by
  have h := hs ps _ hsp (FW W) W args.toList (fun _ _ h => h) (glob_fw hG hL) hps
  rw [hC] at h
  have e : args.toList.toArray = args := by simp
  rw [e] at h
  refine h.mono ?_
  rintro e W' ⟨v, F', rfl, hb, _, _, _, hr⟩
  have hvv : v = .bool true := by
    cases hr with
    | one _ _ h =>
      cases h with
      | one _ _ h => cases h; rfl
    | many ps vs hn _ => exact absurd rfl hn
  subst hvv
  refine ⟨_, rfl, post_below kids slicesFull hts hW hv hargs hvars (fun b sp hd => ?_) hb ?_⟩
  · rw [hrt, hres]
    exact trodAll_mk1 (shut_bool und4 _)
  · exact ok_one hrt rfl (okWide_bool_mk und4 _)


end Go.Ev

namespace Go.Proofs.YtbgdnghnfdijnaaGreatDoor
open Go Go.Ev Go.RowKit Go.ChangeShapes Go.WideShapes Go.ChangeAt

/-- The door's own heap meets the condition. -/
theorem door_met (os : Os) (args : Array Value) : laidMetH Tryz.prog laidL ((World.doorLaid Tryz.prog 400 os).forCall (fun _ _ => 0) ⟨#[], args, []⟩).memory :=
  laidMetH_of_parts3 (fuel := 8) (laidMet_of_run' 8 (by kernel_rfl) (by kernel_rfl)) (by kernel_rfl) (by kernel_rfl)

section
variable {H : Type} {enc : TypeId × Value → H} {W : World} {base : Nat} {sp : Nat → Bool} {hd : Bool} {n : Nat}
theorem trod3_ex {cs : List Value} {x : DataW H × List MemPlace} (h : DataW.trod enc Tryz.prog W base sp hd n 3 cs = some x) : ∃ a : Int, cs = [.int .i64 a] := by
  obtain ⟨b, h1, _⟩ := DataW.trod_int Go.Ev.und3 h
  exact ⟨b, h1⟩
set_option maxRecDepth 100000 in
theorem rp_ints {v : Value} {d : DataW H} {p : List MemPlace} (hok : Value.okWide Tryz.prog W .any base 29 v) (h : DataW.Trod enc Tryz.prog W 0 sp hd 29 v d p) :
    ∃ x : DV, RP (FW W) W (.one x) v ∧ ∃ l, listI x = some l := by
  rcases rp_slice (α := Int) (w := 1) (f := fun a => [.int .i64 a]) (g := fun a => [.v (.int .i64 a)]) Tryz.underlying29 co3 trod3_ex (fun _ => rfl) (fun _ => rfl) (fun a j x y hx hy => by
    match j, hx, hy with
    | 0, hx, hy => simp at hx hy; subst hx; subst hy; exact ⟨rfl, rfl⟩
    | j + 1, hx, hy => simp at hx) hok h with rfl | ⟨l, hl⟩
  · exact ⟨_, .one _ _ (.v _ rfl), [], rfl⟩
  · refine ⟨_, hl, l, ?_⟩
    have : ∀ l : List Int, allSome intRow (l.map fun a => [DV.v (.int .i64 a)]) = some l := by
      intro l
      induction l with
      | nil => rfl
      | cons a l ih => simp only [List.map_cons, allSome, intRow, ih]
    simp only [listI, this]
end

set_option maxRecDepth 100000 in
theorem kinds_lifted (os : Os) (started : os.Started) (H : Type) (enc : TypeId × Value → H) :
    ReturnsInHanded {} Tryz.checked os 5 .any (fun w args => (Rows.abstKindsSpec.pre enc Tryz.prog Tryz.f5 [] false w args ∧ laidMetH Tryz.prog laidL w) ∧ sizedMet enc Tryz.prog Tryz.f5 (OpenSpec.ofChange Rows.abstKindsSpec) false w args)
      (Rows.abstKindsSpec.post enc Tryz.prog Tryz.f5 false true false false) := by
  refine returnsInHanded_of_change_and (C := Tryz.checked) (X := fun w _ => laidMetH Tryz.prog laidL w) (fun _ _ _ hh h => h.of_heap hh) Go.Ev.own started (by kernel_rfl) Tryz.func5
    (ChangeSpec.witness_shaped (enc := enc) (C := Tryz.checked) (os := os) (X := fun w _ => laidMetH Tryz.prog laidL w) false (World.doorLaid Tryz.prog 400 os) #[.slice none 0 0] 8 rfl (World.shaped_of_RefB (by kernel_rfl) (by kernel_rfl)) (by kernel_rfl) (by kernel_rfl) (by kernel_rfl) (door_met os _)) ?_
  intro W base args ds gs before hval0 hW _ _ hL _
  have hval : ∀ (j : Nat) t v, Tryz.f5.params[j]? = some t → args[j]? = some v → Value.okWide Tryz.prog W .any base t v := hval0
  have hW' := hW
  obtain ⟨p, q, hA0, hV, rfl, hfz, hnd⟩ := hW
  have hA : DataW.TrodAll enc Tryz.prog W 0 (fun _ => true) true Tryz.f5.params.toList args.toList ds p := hA0
  rw [Tryz.params5] at hA hval
  obtain ⟨v0, d0, rfl, rfl, h0⟩ := trodAll_one hA
  obtain ⟨rfl, rfl⟩ := trodVars_none hV
  clear hA0 hval0
  obtain ⟨x, r0, l, e0⟩ := rp_ints (hval 0 29 v0 rfl rfl) h0
  refine calls_true (C := C0) (f := Tryz.f5) (ps := [.one x]) rfl rfl law5_sat ?_ rfl hW' rfl rfl rfl rfl ⟨rfl, fun i p v hp hv => ?_⟩ hL (by simp only [law5Spec, e0])
  · have h : (Tryz.f5.params.toList.all fun t => decide (t < Tryz.prog.types.size)) = true := by kernel_rfl
    intro t ht
    rw [List.all_eq_true] at h
    simpa using h t ht
  · match i, hp, hv with
    | 0, hp, hv => simp at hp hv; subst hp; subst hv; exact r0
    | j + 1, hp, hv => simp at hp

theorem kinds_row : Rows.AbstKindsSaid :=
  OpenClaim.holds_of_wide 5 Tryz.f5 rfl rfl rfl rfl rfl rfl rfl ⟨rfl, rfl, rfl, rfl, rfl⟩ rfl rfl rfl rfl rfl (by kernel_rfl) Tryz.func5 (by kernel_rfl)
    (of_decide_eq_true (by kernel_rfl)) (by unfold Func.isWrapper; first | (rw [if_pos (by decide +kernel)]; kernel_rfl) | (rw [if_neg (by decide +kernel)]; exact ⟨rfl, rfl⟩))
    (fun os started H enc _ => kinds_lifted os started H enc)

theorem kinds_holds : Rows.AbstKindsCardSaid :=
  Claim7.holds_tied_plain_at .later [] [.data, .data, .data] true (true, "6d935e182f7c10670bf67341f95ba7831dca1c68585674185f83d606edb085fc") true
    kinds_row (fun _ h => by cases h) (by kernel_rfl) (fun _ h => by cases h) abstKinds_row_tie rfl ⟨rfl, rfl⟩ (by kernel_rfl) rfl
    (fun f fn hf hfn => by
      obtain rfl : f = 5 := Option.some.inj ((show Tryz.prog.funcNamed "turnspit/turnspitlaw21.AbstKinds" = some 5 by kernel_rfl).symm.trans hf) |>.symm
      obtain rfl : fn = Tryz.f5 := (Option.some.inj (Tryz.func5.symm.trans hfn)).symm
      exact ⟨by kernel_rfl, fun j t ht => by
        rw [Tryz.params5] at ht
        have hm : t ∈ [29] := by simpa using Array.mem_of_getElem? ht
        have hall : ([29].all fun u => !Tryz.prog.wantsStandIn u) = true := by kernel_rfl
        exact (show Tryz.prog.wantsStandIn t = false by simpa using List.all_eq_true.1 hall t hm)⟩)
    (by kernel_rfl)
#print axioms kinds_holds
end Go.Proofs.YtbgdnghnfdijnaaGreatDoor
