/- What the proof of this claim needs: part MF. No conditions. -/
import Derived.Test.YtgpdnahmgacffaaME
set_option linter.unusedVariables false
set_option linter.unusedSimpArgs false

namespace Go.Ev
open Go Go.RowKit Go.Proofs

theorem ix_yy (n : Nat) (k : Int) (m : Int) (i : Int) (l : List Evt) (j : Nat) (e : Evt) (h1 : decide (i < m) = true) (h2 : i = ↑j ∧ j < n) (h3 : asCells CW 51 (evCells l) (0 + j * 7) = some (AV.agg [vi e.1, vi e.2, vb e.3, vi e.an.1, vi e.an.2, vi e.an.3, vi e.an.4])) (h4 : (e.th != k) = true) (h5 : hFree [245762] { objs := [(114691, 1, [AO.cells [vi k] false]), (237575, 1, [AO.cells (evCells l) false]), (245762, 1, [AO.cells [vi e.1, vi e.2, vb e.3, vi e.an.1, vi e.an.2, vi e.an.3, vi e.an.4] false])] } = true) :
    Ev CW noO (Task.code 44 false (loopOf Try.prog 44 0) { σ := slots 19 [(0, ofS n), (1, ofFn), (7, vi m), (8, vi i)], h := ofH k l }) (.code (X.ret) { σ := slots 19 [(4, vi i)], h := { objs := [(114691, 1, [AO.cells [vi k] false]), (237575, 1, [AO.cells (evCells l) false])] } }) :=
  symD_ev (n := 60) (sc := [(site 44 9, Dec.b true), (site 44 14, Dec.idx j), (site 44 15, Dec.ld (AV.agg (Evt.av e))), (site 30 7, Dec.b true)]) (keep := [4]) (L := [245762]) (sc' := []) (by kernel_rfl) (AllP_cons h1 (AllP_cons h2 (AllP_cons h3 (AllP_cons h4 (AllP_cons (rfl : true = true) (AllP_cons h5 (AllP_cons (rfl : true = true) AllP_nil)))))))
theorem ix_ynL (n : Nat) (k : Int) (m : Int) (i : Int) (l : List Evt) (j : Nat) (e : Evt) (i18 : Int) (x : X) (s : St) (h1 : decide (i < m) = true) (h2 : i = ↑j ∧ j < n) (h3 : asCells CW 51 (evCells l) (0 + j * 7) = some (AV.agg [vi e.1, vi e.2, vb e.3, vi e.an.1, vi e.an.2, vi e.an.3, vi e.an.4])) (h4 : (e.th != k) = false) (h5 : wr64 (i + 1) = i18) (h6 : hFree [245762] { objs := [(114691, 1, [AO.cells [vi k] false]), (237575, 1, [AO.cells (evCells l) false]), (245762, 1, [AO.cells [vi e.1, vi e.2, vb e.3, vi e.an.1, vi e.an.2, vi e.an.3, vi e.an.4] false])] } = true) (h7 : Ev CW noO (Task.code 44 false (loopOf Try.prog 44 0) { σ := slots 19 [(0, AV.hs 237575 0 0 n 7), (1, AV.fn (AFn.fn (Fn.func 30)) [] [AV.ptr 114691 0 0]), (7, vi m), (8, vi i18)], h := { objs := [(114691, 1, [AO.cells [vi k] false]), (237575, 1, [AO.cells (evCells l) false])] } }) (Res.code x s)) :
    Ev CW noO (Task.code 44 false (loopOf Try.prog 44 0) { σ := slots 19 [(0, ofS n), (1, ofFn), (7, vi m), (8, vi i)], h := ofH k l }) (.code (x) s) :=
  sym_ev 60 _ [(site 44 9, Dec.b true), (site 44 14, Dec.idx j), (site 44 15, Dec.ld (AV.agg (Evt.av e))), (site 30 7, Dec.b false), (site 44 18, Dec.int i18), (site 44 8002, Dec.drop [245762] [0, 1, 7, 8]), (site 44 8001, Dec.loop [0, 1, 7, 8] x s)] _ [] _ (by kernel_rfl) (AllP_cons h1 (AllP_cons h2 (AllP_cons h3 (AllP_cons h4 (AllP_cons h5 (AllP_cons (rfl : true = true) (AllP_cons h6 (AllP_cons (rfl : true = true) (AllP_cons h7 AllP_nil)))))))))
theorem ix_n (n : Nat) (k : Int) (m : Int) (i : Int) (l : List Evt) (h1 : decide (i < m) = false) (h2 : hFree [245762] { objs := [(114691, 1, [AO.cells [vi k] false]), (237575, 1, [AO.cells (evCells l) false])] } = true) :
    Ev CW noO (Task.code 44 false (loopOf Try.prog 44 0) { σ := slots 19 [(0, ofS n), (1, ofFn), (7, vi m), (8, vi i)], h := ofH k l }) (.code (X.exit 0) { σ := slots 19 [], h := { objs := [(114691, 1, [AO.cells [vi k] false]), (237575, 1, [AO.cells (evCells l) false])] } }) :=
  symD_ev (n := 60) (sc := [(site 44 9, Dec.b false)]) (keep := []) (L := [245762]) (sc' := []) (by kernel_rfl) (AllP_cons h1 (AllP_cons (rfl : true = true) (AllP_cons h2 (AllP_cons (rfl : true = true) AllP_nil))))
theorem dl_yyL (n : Nat) (k : Int) (i : Int) (j : Int) (l : List Evt) (a : Nat) (e : Evt) (i21 : Int) (x : X) (s : St) (h1 : decide (j < ↑n) = true) (h2 : j = ↑a ∧ a < n) (h3 : asCells CW 51 (evCells l) (0 + a * 7) = some (AV.agg [vi e.1, vi e.2, vb e.3, vi e.an.1, vi e.an.2, vi e.an.3, vi e.an.4])) (h4 : (e.th != k) = true) (h5 : wr64 (j + 1) = i21) (h6 : hFree [229383, 245762] { objs := [(114691, 1, [AO.cells [vi k] false]), (229383, 1, [AO.cells [vi e.1, vi e.2, vb e.3, vi e.an.1, vi e.an.2, vi e.an.3, vi e.an.4] false]), (237575, 1, [AO.cells (evCells l) false]), (245762, 1, [AO.cells [vi e.1, vi e.2, vb e.3, vi e.an.1, vi e.an.2, vi e.an.3, vi e.an.4] false])] } = true) (h7 : Ev CW noO (Task.code 28 false (loopOf Try.prog 28 0) { σ := slots 42 [(0, AV.hs 237575 0 0 n 7), (1, AV.fn (AFn.fn (Fn.func 30)) [] [AV.ptr 114691 0 0]), (5, vi i), (6, vi i21)], h := { objs := [(114691, 1, [AO.cells [vi k] false]), (237575, 1, [AO.cells (evCells l) false])] } }) (Res.code x s)) :
    Ev CW noO (Task.code 28 false (loopOf Try.prog 28 0) { σ := slots 42 [(0, ofS n), (1, ofFn), (5, vi i), (6, vi j)], h := ofH k l }) (.code (x) s) :=
  sym_ev 60 _ [(site 28 19, Dec.b true), (site 28 24, Dec.idx a), (site 28 25, Dec.ld (AV.agg (Evt.av e))), (site 30 7, Dec.b true), (site 28 21, Dec.int i21), (site 28 8002, Dec.drop [229383, 245762] [0, 1, 5, 6]), (site 28 8001, Dec.loop [0, 1, 5, 6] x s)] _ [] _ (by kernel_rfl) (AllP_cons h1 (AllP_cons h2 (AllP_cons h3 (AllP_cons h4 (AllP_cons h5 (AllP_cons (rfl : true = true) (AllP_cons h6 (AllP_cons (rfl : true = true) (AllP_cons h7 AllP_nil)))))))))
theorem dl_ynL (n : Nat) (k : Int) (i : Int) (j : Int) (l : List Evt) (a : Nat) (e : Evt) (b : Nat) (l' : List Evt) (i35 : Int) (i21 : Int) (x : X) (s : St) (h1 : decide (j < ↑n) = true) (h2 : j = ↑a ∧ a < n) (h3 : asCells CW 51 (evCells l) (0 + a * 7) = some (AV.agg [vi e.1, vi e.2, vb e.3, vi e.an.1, vi e.an.2, vi e.an.3, vi e.an.4])) (h4 : (e.th != k) = false) (h5 : i = ↑b ∧ b < n) (h6 : stoEq CW 51 (evCells l) (0 + b * 7) (AV.agg [vi e.1, vi e.2, vb e.3, vi e.an.1, vi e.an.2, vi e.an.3, vi e.an.4]) (evCells l')) (h7 : wr64 (i + 1) = i35) (h8 : wr64 (j + 1) = i21) (h9 : hFree [229383, 245762] { objs := [(114691, 1, [AO.cells [vi k] false]), (229383, 1, [AO.cells [vi e.1, vi e.2, vb e.3, vi e.an.1, vi e.an.2, vi e.an.3, vi e.an.4] false]), (237575, 1, [AO.cells (evCells l') false]), (245762, 1, [AO.cells [vi e.1, vi e.2, vb e.3, vi e.an.1, vi e.an.2, vi e.an.3, vi e.an.4] false])] } = true) (h10 : Ev CW noO (Task.code 28 false (loopOf Try.prog 28 0) { σ := slots 42 [(0, AV.hs 237575 0 0 n 7), (1, AV.fn (AFn.fn (Fn.func 30)) [] [AV.ptr 114691 0 0]), (5, vi i35), (6, vi i21)], h := { objs := [(114691, 1, [AO.cells [vi k] false]), (237575, 1, [AO.cells (evCells l') false])] } }) (Res.code x s)) :
    Ev CW noO (Task.code 28 false (loopOf Try.prog 28 0) { σ := slots 42 [(0, ofS n), (1, ofFn), (5, vi i), (6, vi j)], h := ofH k l }) (.code (x) s) :=
  sym_ev 60 _ [(site 28 19, Dec.b true), (site 28 24, Dec.idx a), (site 28 25, Dec.ld (AV.agg (Evt.av e))), (site 30 7, Dec.b false), (site 28 33, Dec.idx b), (site 28 8000, Dec.sto (evCells l')), (site 28 35, Dec.int i35), (site 28 21, Dec.int i21), (site 28 8002, Dec.drop [229383, 245762] [0, 1, 5, 6]), (site 28 8001, Dec.loop [0, 1, 5, 6] x s)] _ [] _ (by kernel_rfl) (AllP_cons h1 (AllP_cons h2 (AllP_cons h3 (AllP_cons h4 (AllP_cons h5 (AllP_cons h6 (AllP_cons h7 (AllP_cons h8 (AllP_cons (rfl : true = true) (AllP_cons h9 (AllP_cons (rfl : true = true) (AllP_cons h10 AllP_nil))))))))))))
theorem dl_n (n : Nat) (k : Int) (i : Int) (j : Int) (l : List Evt) (h1 : decide (j < ↑n) = false) (h2 : hFree [229383, 245762] { objs := [(114691, 1, [AO.cells [vi k] false]), (237575, 1, [AO.cells (evCells l) false])] } = true) :
    Ev CW noO (Task.code 28 false (loopOf Try.prog 28 0) { σ := slots 42 [(0, ofS n), (1, ofFn), (5, vi i), (6, vi j)], h := ofH k l }) (.code (X.exit 0) { σ := slots 42 [(0, AV.hs 237575 0 0 n 7), (5, vi i)], h := { objs := [(114691, 1, [AO.cells [vi k] false]), (237575, 1, [AO.cells (evCells l) false])] } }) :=
  symD_ev (n := 60) (sc := [(site 28 19, Dec.b false)]) (keep := [0, 5]) (L := [229383, 245762]) (sc' := []) (by kernel_rfl) (AllP_cons h1 (AllP_cons (rfl : true = true) (AllP_cons h2 (AllP_cons (rfl : true = true) AllP_nil))))
theorem ofN_ (k : Int) (h1 : Ev CW noO (Task.code 44 false (loopOf Try.prog 44 0) { σ := slots 19 [(0, AV.d (DV.v (Value.slice none 0 0))), (1, AV.fn (AFn.fn (Fn.func 30)) [] [AV.ptr 114691 0 0]), (7, vi 0), (8, vi 0)], h := { objs := [(114691, 1, [AO.cells [vi k] false])] } }) (Res.code (X.exit 0) { σ := slots 19 [], h := H.push { } (site 14 3) (AO.cells [vi k] false) })) :
    Ev CW noO (Task.call 14 [AV.d (DV.v (Value.slice none 0 0)), vi k] { }) (.val (AV.d (DV.v (Value.slice none 0 0))) { objs := [(114691, 1, [AO.cells [vi k] false])] }) :=
  sym_ev 60 _ [(site 44 8001, Dec.loop [0, 1, 7, 8] (X.exit 0) { σ := slots 19 [], h := H.push { } (site 14 3) (AO.cells [vi k] false) })] _ [] _ (by kernel_rfl) (AllP_cons h1 AllP_nil)
theorem ofE_ (full : Bool) (k : Int) (h1 : Ev CW noO (Task.code 44 false (loopOf Try.prog 44 0) { σ := slots 19 [(0, AV.d (DV.sl 7 true [])), (1, AV.fn (AFn.fn (Fn.func 30)) [] [AV.ptr 114691 0 0]), (7, vi 0), (8, vi 0)], h := { objs := [(114691, 1, [AO.cells [vi k] false])] } }) (Res.code (X.exit 0) { σ := slots 19 [], h := H.push { } (site 14 3) (AO.cells [vi k] false) })) :
    Ev CW noO (Task.call 14 [AV.d (DV.sl 7 full []), vi k] { }) (.val (AV.d (DV.sl 7 true [])) { objs := [(114691, 1, [AO.cells [vi k] false])] }) :=
  sym_ev 60 _ [(site 44 8001, Dec.loop [0, 1, 7, 8] (X.exit 0) { σ := slots 19 [], h := H.push { } (site 14 3) (AO.cells [vi k] false) })] _ [] _ (by kernel_rfl) (AllP_cons h1 AllP_nil)
theorem ofA_ (y : DV) (k : Int) :
    Ev CW noO (Task.code 44 false (loopOf Try.prog 44 0) { σ := slots 19 [(0, AV.d y), (1, ofFn), (7, vi 0), (8, vi 0)], h := H.push { } (site 14 3) (AO.cells [vi k] false) }) (.code (X.exit 0) { σ := slots 19 [], h := { objs := [(114691, 1, [AO.cells [vi k] false])] } }) :=
  symD_ev (n := 60) (sc := []) (keep := []) (L := [245762]) (sc' := []) (by kernel_rfl) (AllP_cons (rfl : true = true) (AllP_cons (rfl : true = true) (AllP_cons (rfl : true = true) AllP_nil)))
theorem ofc_l1 (full : Bool) (k : Int) (l : List Evt) (l' : List Evt) (i : Int) (j : Nat) (i7 : Int) (h1 : List.isEmpty (evRows l) = false ∧ fitsP 0 (List.length (evRows l)) 56) (h2 : ↑(0 + List.length (evRows l)) = i7) (h3 : Ev CW noO (Task.code 44 false (loopOf Try.prog 44 0) { σ := slots 19 [(0, AV.hs 237575 0 0 (0 + List.length (evRows l)) 7), (1, AV.fn (AFn.fn (Fn.func 30)) [] [AV.ptr 114691 0 0]), (7, vi i7), (8, vi 0)], h := { objs := [(114691, 1, [AO.cells [vi k] false]), (237575, 1, [AO.cells ([] ++ List.map AV.d (List.flatten (evRows l))) false])] } }) (Res.code (X.exit 0) { σ := slots 19 [], h := ofH k l })) :
    Ev CW noO (Task.call 14 [AV.d (DV.sl 7 full (evRows l)), vi k] { }) (.val (AV.hs 237575 0 0 (0 + List.length (evRows l)) 7) { objs := [(114691, 1, [AO.cells [vi k] false]), (237575, 1, [AO.cells (evCells l) false])] }) :=
  sym_ev 60 _ [(site 29 7, Dec.app false), (site 44 7, Dec.int i7), (site 44 8001, Dec.loop [0, 1, 7, 8] (X.exit 0) { σ := slots 19 [], h := ofH k l })] _ [] _ (by kernel_rfl) (AllP_cons h1 (AllP_cons h2 (AllP_cons h3 AllP_nil)))
theorem ofc_l2y (full : Bool) (k : Int) (l : List Evt) (l' : List Evt) (i : Int) (j : Nat) (i7 : Int) (h1 : List.isEmpty (evRows l) = false ∧ fitsP 0 (List.length (evRows l)) 56) (h2 : ↑(0 + List.length (evRows l)) = i7) (h3 : Ev CW noO (Task.code 44 false (loopOf Try.prog 44 0) { σ := slots 19 [(0, AV.hs 237575 0 0 (0 + List.length (evRows l)) 7), (1, AV.fn (AFn.fn (Fn.func 30)) [] [AV.ptr 114691 0 0]), (7, vi i7), (8, vi 0)], h := { objs := [(114691, 1, [AO.cells [vi k] false]), (237575, 1, [AO.cells ([] ++ List.map AV.d (List.flatten (evRows l))) false])] } }) (Res.code X.ret { σ := slots 19 [(4, vi i)], h := ofH k l })) (h4 : (i == -1) = true) :
    Ev CW noO (Task.call 14 [AV.d (DV.sl 7 full (evRows l)), vi k] { }) (.val (AV.hs 237575 0 0 (0 + List.length (evRows l)) 7) { objs := [(114691, 1, [AO.cells [vi k] false]), (237575, 1, [AO.cells (evCells l) false])] }) :=
  sym_ev 60 _ [(site 29 7, Dec.app false), (site 44 7, Dec.int i7), (site 44 8001, Dec.loop [0, 1, 7, 8] X.ret { σ := slots 19 [(4, vi i)], h := ofH k l }), (site 28 12, Dec.b true)] _ [] _ (by kernel_rfl) (AllP_cons h1 (AllP_cons h2 (AllP_cons h3 (AllP_cons h4 AllP_nil))))
theorem ofc_l2nt1 (full : Bool) (k : Int) (l : List Evt) (l' : List Evt) (i : Int) (j : Nat) (i7 : Int) (i15 : Int) (n : Nat) (n2 : Nat) (h1 : List.isEmpty (evRows l) = false ∧ fitsP 0 (List.length (evRows l)) 56) (h2 : ↑(0 + List.length (evRows l)) = i7) (h3 : Ev CW noO (Task.code 44 false (loopOf Try.prog 44 0) { σ := slots 19 [(0, AV.hs 237575 0 0 (0 + List.length (evRows l)) 7), (1, AV.fn (AFn.fn (Fn.func 30)) [] [AV.ptr 114691 0 0]), (7, vi i7), (8, vi 0)], h := { objs := [(114691, 1, [AO.cells [vi k] false]), (237575, 1, [AO.cells ([] ++ List.map AV.d (List.flatten (evRows l))) false])] } }) (Res.code X.ret { σ := slots 19 [(4, vi i)], h := ofH k l })) (h4 : (i == -1) = false) (h5 : wr64 (i + 1) = i15) (h6 : Ev CW noO (Task.code 28 false (loopOf Try.prog 28 0) { σ := slots 42 [(0, AV.hs 237575 0 0 (0 + List.length (evRows l)) 7), (1, AV.fn (AFn.fn (Fn.func 30)) [] [AV.ptr 114691 0 0]), (5, vi i), (6, vi i15)], h := { objs := [(114691, 1, [AO.cells [vi k] false]), (237575, 1, [AO.cells (evCells l) false])] } }) (Res.code (X.exit 0) { σ := slots 42 [(0, ofS (0 + List.length (evRows l))), (5, vi ↑j)], h := ofH k l' })) (h7 : cutGoal 7 (AV.hs 237575 0 0 (0 + List.length (evRows l)) 7) (some ↑j) none none j n n (AV.hs 237575 0 (0 + j * 7) (n - j) 7)) (h8 : n - j = 0) (h9 : cutGoal 7 (AV.hs 237575 0 0 (0 + List.length (evRows l)) 7) none (some ↑j) none 0 j n2 (AV.hs 237575 0 0 j 7)) :
    Ev CW noO (Task.call 14 [AV.d (DV.sl 7 full (evRows l)), vi k] { }) (.val (AV.hs 237575 0 0 j 7) { objs := [(114691, 1, [AO.cells [vi k] false]), (237575, 1, [AO.cells (evCells l') false])] }) :=
  sym_ev 60 _ [(site 29 7, Dec.app false), (site 44 7, Dec.int i7), (site 44 8001, Dec.loop [0, 1, 7, 8] X.ret { σ := slots 19 [(4, vi i)], h := ofH k l }), (site 28 12, Dec.b false), (site 28 15, Dec.int i15), (site 28 8001, Dec.loop [0, 1, 5, 6] (X.exit 0) { σ := slots 42 [(0, ofS (0 + List.length (evRows l))), (5, vi ↑j)], h := ofH k l' }), (site 28 38, Dec.cut j n n (AV.hs (site 29 7) 0 (0 + j * 7) (n - j) 7)), (site 28 8000, Dec.clr true []), (site 28 41, Dec.cut 0 j n2 (AV.hs (site 29 7) 0 0 j 7))] _ [] _ (by kernel_rfl) (AllP_cons h1 (AllP_cons h2 (AllP_cons h3 (AllP_cons h4 (AllP_cons h5 (AllP_cons h6 (AllP_cons h7 (AllP_cons h8 (AllP_cons h9 AllP_nil)))))))))
theorem ofc_l2nt2 (full : Bool) (k : Int) (l : List Evt) (l' : List Evt) (i : Int) (j : Nat) (i7 : Int) (i15 : Int) (n : Nat) (cs : List AV) (n2 : Nat) (h1 : List.isEmpty (evRows l) = false ∧ fitsP 0 (List.length (evRows l)) 56) (h2 : ↑(0 + List.length (evRows l)) = i7) (h3 : Ev CW noO (Task.code 44 false (loopOf Try.prog 44 0) { σ := slots 19 [(0, AV.hs 237575 0 0 (0 + List.length (evRows l)) 7), (1, AV.fn (AFn.fn (Fn.func 30)) [] [AV.ptr 114691 0 0]), (7, vi i7), (8, vi 0)], h := { objs := [(114691, 1, [AO.cells [vi k] false]), (237575, 1, [AO.cells ([] ++ List.map AV.d (List.flatten (evRows l))) false])] } }) (Res.code X.ret { σ := slots 19 [(4, vi i)], h := ofH k l })) (h4 : (i == -1) = false) (h5 : wr64 (i + 1) = i15) (h6 : Ev CW noO (Task.code 28 false (loopOf Try.prog 28 0) { σ := slots 42 [(0, AV.hs 237575 0 0 (0 + List.length (evRows l)) 7), (1, AV.fn (AFn.fn (Fn.func 30)) [] [AV.ptr 114691 0 0]), (5, vi i), (6, vi i15)], h := { objs := [(114691, 1, [AO.cells [vi k] false]), (237575, 1, [AO.cells (evCells l) false])] } }) (Res.code (X.exit 0) { σ := slots 42 [(0, ofS (0 + List.length (evRows l))), (5, vi ↑j)], h := ofH k l' })) (h7 : cutGoal 7 (AV.hs 237575 0 0 (0 + List.length (evRows l)) 7) (some ↑j) none none j n n (AV.hs 237575 0 (0 + j * 7) (n - j) 7)) (h8 : clrEq CW 51 (0 + j * 7) (n - j) 7 (evCells l') cs) (h9 : cutGoal 7 (AV.hs 237575 0 0 (0 + List.length (evRows l)) 7) none (some ↑j) none 0 j n2 (AV.hs 237575 0 0 j 7)) :
    Ev CW noO (Task.call 14 [AV.d (DV.sl 7 full (evRows l)), vi k] { }) (.val (AV.hs 237575 0 0 j 7) { objs := [(114691, 1, [AO.cells [vi k] false]), (237575, 1, [AO.cells cs false])] }) :=
  sym_ev 60 _ [(site 29 7, Dec.app false), (site 44 7, Dec.int i7), (site 44 8001, Dec.loop [0, 1, 7, 8] X.ret { σ := slots 19 [(4, vi i)], h := ofH k l }), (site 28 12, Dec.b false), (site 28 15, Dec.int i15), (site 28 8001, Dec.loop [0, 1, 5, 6] (X.exit 0) { σ := slots 42 [(0, ofS (0 + List.length (evRows l))), (5, vi ↑j)], h := ofH k l' }), (site 28 38, Dec.cut j n n (AV.hs (site 29 7) 0 (0 + j * 7) (n - j) 7)), (site 28 8000, Dec.clr false cs), (site 28 41, Dec.cut 0 j n2 (AV.hs (site 29 7) 0 0 j 7))] _ [] _ (by kernel_rfl) (AllP_cons h1 (AllP_cons h2 (AllP_cons h3 (AllP_cons h4 (AllP_cons h5 (AllP_cons h6 (AllP_cons h7 (AllP_cons h8 (AllP_cons h9 AllP_nil)))))))))

end Go.Ev

namespace Go.Ev
open Go Go.RowKit Go.Proofs

theorem ev_st51 {C : Ctx} (hC : C.P = Try.prog) {nx : List Evt} {k : Nat} {n : Evt} (e : Evt) (h : nx[k]? = some n) : stoEq C 51 (evCells nx) (0 + k * 7) (.agg e.av) (evCells (nx.set k e)) := by
  obtain ⟨h1, h2⟩ := fl_put (j := 0) (a' := e) (xs := cellsA (.agg e.av)) evAv_len h rfl (Nat.le_refl 7)
  exact ⟨7, (agg51 hC).2, rfl, h2, rfl, h1.symm⟩
theorem of_free {L : List Nat} (k : Int) (l : List Evt) (cs1 cs2 : List AV) (h : L = [245762] ∨ L = [229383, 245762]) (hf1 : avFreeL L cs1 = true) (hf2 : avFreeL L cs2 = true) :
    hFree L { objs := [(114691, 1, [AO.cells [vi k] false]), (229383, 1, [AO.cells cs1 false]), (237575, 1, [AO.cells (evCells l) false]), (245762, 1, [AO.cells cs2 false])] } = true := by
  rcases h with rfl | rfl <;> simp [hFree, objFree, evCells_free, hf1, hf2, avFreeL, avFree, vi]
theorem of_free2 {L : List Nat} (k : Int) (l : List Evt) (cs2 : List AV) (hf2 : avFreeL L cs2 = true) :
    hFree L { objs := [(114691, 1, [AO.cells [vi k] false]), (237575, 1, [AO.cells (evCells l) false]), (245762, 1, [AO.cells cs2 false])] } = true := by
  simp [hFree, objFree, evCells_free, hf2, avFreeL, avFree, vi]
theorem of_free3 {L : List Nat} (k : Int) (l : List Evt) :
    hFree L { objs := [(114691, 1, [AO.cells [vi k] false]), (237575, 1, [AO.cells (evCells l) false])] } = true := by
  simp [hFree, objFree, evCells_free, avFreeL, avFree, vi]

/-! ### the first one that goes -/
def goF (k : Int) : Nat → List Evt → Option Nat
  | _, [] => none
  | i, e :: r => if (e.th != k) = true then some i else goF k (i + 1) r
def goHd (n : Nat) (k : Int) (i : Int) (l : List Evt) : St := { σ := slots 19 [(0, ofS n), (1, ofFn), (7, vi (n : Int)), (8, vi i)], h := ofH k l }
def goOut (k : Int) (l : List Evt) : Option Nat → X × St
  | none => (.exit 0, { σ := slots 19 [], h := ofH k l })
  | some i => (.ret, { σ := slots 19 [(4, vi (i : Int))], h := ofH k l })
theorem at_of {α : Type} {pre rest all : List α} {e : α} (h : pre ++ e :: rest = all) : all[pre.length]? = some e := by subst h; simp
theorem go_loop (k : Int) (all : List Evt) (hb : all.length < 2 ^ 40) : ∀ (rest pre : List Evt), pre ++ rest = all →
    Ev CW noO (.code 44 false (loopOf Try.prog 44 0) (goHd all.length k (pre.length : Nat) all)) (.code (goOut k all (goF k pre.length rest)).1 (goOut k all (goF k pre.length rest)).2)
  | [], pre, h => ix_n _ k _ _ all (dge (by subst h; simp)) (of_free3 k all)
  | e :: rest, pre, h => by
    have hlt := pre_lt h
    have hat := at_of h
    have ih := go_loop k all hb rest (pre ++ [e]) (pre_snoc h)
    simp only [len_snoc] at ih
    have hld := ev_ld (C := CW) rfl hat
    unfold goF
    cases hk : (e.th != k) with
    | true => exact ix_yy _ k _ _ all pre.length e (dlt hlt) ⟨rfl, hlt⟩ hld hk (of_free2 k all _ (evAv_free _ e))
    | false => exact ix_ynL _ k _ _ all pre.length e _ _ _ (dlt hlt) ⟨rfl, hlt⟩ hld hk (wrap_succ (by omega)) (of_free2 k all _ (evAv_free _ e)) ih

/-! ### the others close up -/
def upL (k : Int) : List Evt → List Evt → Nat → List Evt × Nat
  | [], cur, i => (cur, i)
  | e :: r, cur, i => if (e.th != k) = true then upL k r cur i else upL k r (cur.set i e) (i + 1)
def upHd (n : Nat) (k i j : Int) (l : List Evt) : St := { σ := slots 42 [(0, ofS n), (1, ofFn), (5, vi i), (6, vi j)], h := ofH k l }
def upOut (n : Nat) (k : Int) (p : List Evt × Nat) : St := { σ := slots 42 [(0, ofS n), (5, vi (p.2 : Int))], h := ofH k p.1 }
theorem up_loop (k : Int) (n : Nat) (hb : n < 2 ^ 40) : ∀ (rest cur : List Evt) (i a : Nat), cur.drop a = rest → cur.length = n → a ≤ n → i ≤ a →
    Ev CW noO (.code 28 false (loopOf Try.prog 28 0) (upHd n k (i : Nat) (a : Nat) cur)) (.code (.exit 0) (upOut n k (upL k rest cur i)))
  | [], cur, i, a, h, hn, ha, hi => by
    have : n ≤ a := by have := congrArg List.length h; simp at this; omega
    exact dl_n n k _ _ cur (dge this) (of_free3 k cur)
  | e :: rest, cur, i, a, h, hn, ha, hi => by
    have hlen := congrArg List.length h
    simp only [List.length_drop, List.length_cons] at hlen
    have hlt : a < n := by omega
    have hat : cur[a]? = some e := by
      have : (cur.drop a)[0]? = some e := by rw [h]; rfl
      simpa using this
    have hd : cur.drop (a + 1) = rest := by rw [← List.drop_drop, h]; rfl
    have hld := ev_ld (C := CW) rfl hat
    unfold upL
    cases hk : (e.th != k) with
    | true =>
      exact dl_yyL n k _ _ cur a e _ _ _ (dlt hlt) ⟨rfl, hlt⟩ hld hk (wrap_succ (by omega)) (of_free k cur _ _ (.inr rfl) (evAv_free _ e) (evAv_free _ e)) (up_loop k n hb rest cur i (a + 1) hd hn hlt (by omega))
    | false =>
      have hil : i < cur.length := by omega
      have hst := ev_st51 (C := CW) rfl e (List.getElem?_eq_getElem hil)
      have hd' : (cur.set i e).drop (a + 1) = rest := by rw [List.drop_set, if_pos (by omega), hd]
      exact dl_ynL n k _ _ cur a e i _ _ _ _ _ (dlt hlt) ⟨rfl, hlt⟩ hld hk ⟨rfl, by omega⟩ hst (wrap_succ (by omega)) (wrap_succ (by omega)) (of_free k _ _ _ (.inr rfl) (evAv_free _ e) (evAv_free _ e))
        (up_loop k n hb rest (cur.set i e) (i + 1) (a + 1) hd' (by simpa using hn) hlt (by omega))
theorem upL_spec (k : Int) : ∀ (rest cur : List Evt) (i a : Nat), cur.drop a = rest → a ≤ cur.length → i ≤ a →
    (upL k rest cur i).1.take (upL k rest cur i).2 = cur.take i ++ ofL k rest ∧ (upL k rest cur i).1.length = cur.length ∧ (upL k rest cur i).2 ≤ cur.length
  | [], cur, i, a, h, ha, hi => by simp [upL, ofL]; omega
  | e :: rest, cur, i, a, h, ha, hi => by
    have hlen := congrArg List.length h
    simp only [List.length_drop, List.length_cons] at hlen
    have hd : cur.drop (a + 1) = rest := by rw [← List.drop_drop, h]; rfl
    unfold upL
    cases hk : (e.th != k) with
    | true =>
      obtain ⟨h1, h2, h3⟩ := upL_spec k rest cur i (a + 1) hd (by omega) (by omega)
      have e1 : ofL k (e :: rest) = ofL k rest := by
        have : (e.th == k) = false := by simpa using hk
        simp [ofL, this]
      simp only [if_true, e1]
      exact ⟨h1, h2, h3⟩
    | false =>
      have hd' : (cur.set i e).drop (a + 1) = rest := by rw [List.drop_set, if_pos (by omega), hd]
      obtain ⟨h1, h2, h3⟩ := upL_spec k rest (cur.set i e) (i + 1) (a + 1) hd' (by simp; omega) (by omega)
      have e1 : ofL k (e :: rest) = e :: ofL k rest := by
        have : (e.th == k) = true := by simpa using hk
        simp [ofL, this]
      simp only [Bool.false_eq_true, if_false, e1]
      refine ⟨?_, by simpa using h2, by simpa using h3⟩
      rw [h1, List.take_add_one, List.take_set, List.set_eq_of_length_le (by simp; omega)]
      simp [show i < cur.length by omega]

/-! ### rows out of cells -/
theorem cellD_row (e : Evt) : allSome cellD e.av = some e.row := rfl
theorem allSome_append {α β : Type} {f : α → Option β} : ∀ {a b : List α} {x y : List β}, allSome f a = some x → allSome f b = some y → allSome f (a ++ b) = some (x ++ y)
  | [], b, x, y, h1, h2 => by simp [allSome] at h1; subst h1; simpa using h2
  | c :: a, b, x, y, h1, h2 => by
    simp only [allSome] at h1
    cases e1 : f c with
    | none => simp [e1] at h1
    | some u =>
      cases e2 : allSome f a with
      | none => simp [e1, e2] at h1
      | some v =>
        simp only [e1, e2, Option.some.injEq] at h1
        subst h1
        simp only [List.cons_append, allSome, e1, allSome_append e2 h2]
theorem cellD_cells : ∀ (l : List Evt), allSome cellD (evCells l) = some (evRows l).flatten
  | [] => rfl
  | e :: l => by
    show allSome cellD (e.av ++ evCells l) = some (e.row ++ (evRows l).flatten)
    exact allSome_append (cellD_row e) (cellD_cells l)
theorem chunk_rows {w : Nat} : ∀ (rows : List (List DV)), (∀ r ∈ rows, r.length = w) → chunk w rows.length rows.flatten = rows
  | [], _ => rfl
  | r :: rows, h => by
    have hr := h r (by simp)
    simp only [List.length_cons, chunk, List.flatten_cons]
    rw [List.take_left' hr, List.drop_left' hr, chunk_rows rows (fun x hx => h x (by simp [hx]))]
theorem evRow_len (e : Evt) : e.row.length = 7 := rfl
theorem evRows_len {l : List Evt} : ∀ r ∈ evRows l, r.length = 7 := by
  intro r hr
  simp only [evRows, List.mem_map] at hr
  obtain ⟨e, _, rfl⟩ := hr
  rfl
theorem evCells_len (l : List Evt) : (evCells l).length = l.length * 7 := fl_len evAv_len l
theorem evCells_take (l : List Evt) (m : Nat) (hm : m ≤ l.length) : (evCells l).take (m * 7) = evCells (l.take m) := by
  have e : evCells l = evCells (l.take m) ++ evCells (l.drop m) := by
    unfold evCells
    rw [← List.flatMap_append, List.take_append_drop]
  rw [e, List.take_append_of_le_length (by rw [evCells_len]; simp; omega), List.take_of_length_le (by rw [evCells_len]; simp; omega)]
theorem rows_of_cells {h : H} {s g m : Nat} {cs : List AV} {fz : Bool} {l : List Evt} (hg : h.get s g = some (.cells cs fz)) (hc : cs.take (m * 7) = evCells l) (hl : l.length = m) : rowsOf h (.hs s g 0 m 7) = some (7, evRows l) := by
  have hlen := congrArg List.length hc
  rw [List.length_take, evCells_len, hl] at hlen
  unfold rowsOf
  simp only [hg]
  have ht : takeCells cs 0 (m * 7) = some (evCells l) := by
    unfold takeCells
    rw [if_pos (by omega), List.drop_zero, hc]
  rw [ht]
  simp only [cellD_cells]
  have := chunk_rows (evRows l) evRows_len
  rw [show (evRows l).length = m by simp [evRows, hl]] at this
  rw [this]
theorem resA_hs {h : H} {s g m : Nat} {cs : List AV} {fz : Bool} {l : List Evt} (hg : h.get s g = some (.cells cs fz)) (hc : cs.take (m * 7) = evCells l) (hl : l.length = m) :
    resA h (.hs s g 0 m 7) = some ([.one (.sl 7 false (evRows l))], h.set s g (.cells cs true)) := by
  simp only [resA, freeze1, hg, rows_of_cells hg hc hl]
theorem putCells_take : ∀ (l cs : List AV) (off m : Nat), m ≤ off → (putCells cs off l).take m = cs.take m
  | [], cs, off, m, h => rfl
  | x :: l, cs, off, m, h => by
    simp only [putCells]
    rw [putCells_take l _ _ m (by omega), List.take_set, List.set_eq_of_length_le (by simp; omega)]

theorem cells_map (l : List Evt) : ([] : List AV) ++ List.map AV.d (List.flatten (evRows l)) = evCells l := by
  rw [List.nil_append]
  induction l with
  | nil => rfl
  | cons e l ih =>
    show List.map AV.d (e.row ++ (evRows l).flatten) = e.av ++ evCells l
    rw [List.map_append, ih]; rfl

def ofSpec : Spec
  | [.one (.v (.slice none 0 0)), .one (.v (.int .i64 k))] => some [nilPV]
  | [.one (.sl 7 full rows), .one (.v (.int .i64 k))] => match allSome evtI rows with
    | some l => if l.length < 2 ^ 40 then some [if l.isEmpty then .one (.sl 7 true []) else .one (.sl 7 false (evRows (ofL k l)))] else none
    | none => none
  | _ => none

theorem goF_spec (k : Int) : ∀ (rest : List Evt) (i : Nat), (goF k i rest = none → ofL k rest = rest) ∧ ∀ j, goF k i rest = some j → ∃ p e r, rest = p ++ e :: r ∧ j = i + p.length ∧ ofL k p = p ∧ (e.th != k) = true
  | [], i => ⟨fun _ => rfl, fun j h => by cases h⟩
  | e :: rest, i => by
    obtain ⟨h1, h2⟩ := goF_spec k rest (i + 1)
    unfold goF
    cases hk : (e.th != k) with
    | true => exact ⟨fun h => by simp at h, fun j h => ⟨[], e, rest, rfl, by simpa using h.symm, rfl, hk⟩⟩
    | false =>
      have hk' : (e.th == k) = true := by simpa using hk
      simp only [Bool.false_eq_true, if_false]
      refine ⟨fun h => by
        have e1 : ofL k (e :: rest) = e :: ofL k rest := by simp [ofL, hk']
        rw [e1, h1 h], fun j h => ?_⟩
      obtain ⟨p, e', r, q1, q2, q3, q4⟩ := h2 j h
      refine ⟨e :: p, e', r, by simp [q1], by simp; omega, ?_, q4⟩
      simp only [ofL, List.filter_cons, hk', if_true]
      congr 1

theorem of_sat : Sat CW 14 ofSpec := by
  refine sat_of_ev (O := noO) hPW (fun _ _ h => h.elim) hm0 fun ps rs hs => ?_
  unfold ofSpec at hs
  split at hs
  · rename_i k
    simp only [Option.some.injEq] at hs
    subst hs
    exact ⟨_, _, _, ofN_ k (ofA_ _ k), rfl⟩
  · rename_i full rows k
    split at hs
    · rename_i l hl
      split at hs
      · rename_i hb
        simp only [Option.some.injEq] at hs
        subst hs
        obtain rfl : rows = evRows l := rows_eq (g := Evt.row) (fun _ _ => evtI_eq) hl
        cases l with
        | nil => exact ⟨_, _, _, ofE_ full k (ofA_ _ k), rfl⟩
        | cons e0 l0 =>
          generalize hl0 : e0 :: l0 = l at *
          have hne : l.isEmpty = false := by subst hl0; rfl
          have hne' : (evRows l).isEmpty = false := by subst hl0; rfl
          have hlen : 0 + (evRows l).length = l.length := by simp [evRows]
          have hlen' : ((0 + (evRows l).length : Nat) : Int) = (l.length : Nat) := by rw [hlen]
          have hfit : List.isEmpty (evRows l) = false ∧ fitsP 0 (List.length (evRows l)) 56 := ⟨hne', by simp only [evRows, List.length_map, fitsP]; omega⟩
          have hg := go_loop k l hb l [] rfl
          simp only [List.length_nil] at hg
          obtain ⟨s1, s2⟩ := goF_spec k l 0
          rw [hne]
          simp only [Bool.false_eq_true, if_false]
          cases e1 : goF k 0 l with
          | none =>
            rw [e1] at hg
            have h0 := ofc_l1 full k l l 0 0 ((l.length : Nat) : Int) hfit hlen' (by rw [cells_map, hlen]; exact hg)
            rw [hlen] at h0
            rw [s1 e1]
            exact ⟨_, _, _, h0, resA_hs rfl (by rw [evCells_take l _ (Nat.le_refl _), List.take_length]) rfl⟩
          | some j =>
            rw [e1] at hg
            obtain ⟨p, e, r, q1, q2, q3, q4⟩ := s2 j e1
            have hjl : j < l.length := by rw [q1]; simp; omega
            have hpj : p.length = j := by omega
            have hpt : l.take j = p := by rw [q1, ← hpj]; simp
            have hdr : l.drop (j + 1) = r := by rw [q1, ← hpj]; simp [List.drop_append]
            have hu := up_loop k l.length hb r l j (j + 1) hdr rfl (by omega) (by omega)
            obtain ⟨u1, u2, u3⟩ := upL_spec k r l j (j + 1) hdr (by omega) (by omega)
            have hof : ofL k l = l.take j ++ ofL k r := by
              have hk' : (e.th == k) = false := by simpa using q4
              rw [hpt, q1]
              simp only [ofL, List.filter_append, List.filter_cons, hk', Bool.false_eq_true, if_false]
              congr 1
            generalize hup : upL k r l j = u at hu u1 u2 u3
            obtain ⟨l', m⟩ := u
            simp only at u1 u2 u3
            have hneg : ((j : Int) == -1) = false := by
              simp only [beq_eq_false_iff_ne, ne_eq]
              omega
            by_cases hm : l.length - m = 0
            · have h0 := ofc_l2nt1 full k l l' (j : Int) m ((l.length : Nat) : Int) ((j + 1 : Nat) : Int) l.length l.length hfit hlen' (by rw [cells_map, hlen]; exact hg) hneg (wrap_succ (by omega)) (by rw [hlen]; exact hu)
                (by rw [hlen]; simp [cutGoal, bnd]; omega) (by omega) (by rw [hlen]; simp [cutGoal, bnd]; omega)
              rw [hof, ← u1]
              exact ⟨_, _, _, h0, resA_hs rfl (evCells_take l' m (by omega)) (by simp; omega)⟩
            · have h0 := ofc_l2nt2 full k l l' (j : Int) m ((l.length : Nat) : Int) ((j + 1 : Nat) : Int) l.length
                (putCells (evCells l') (0 + m * 7) ((List.replicate (l.length - m) [vi 0, vi 0, vb false, vi 0, vi 0, vi 0, vi 0]).flatten)) l.length hfit hlen' (by rw [cells_map, hlen]; exact hg) hneg (wrap_succ (by omega)) (by rw [hlen]; exact hu)
                (by rw [hlen]; simp [cutGoal, bnd]; omega)
                ⟨by omega, .agg #[.int .i64 0, .int .i64 0, .bool false, .int .i64 0, .int .i64 0, .int .i64 0, .int .i64 0], by unfold zeroT; kernel_rfl, rfl, by rw [evCells_len]; omega, by kernel_rfl, rfl⟩
                (by rw [hlen]; simp [cutGoal, bnd]; omega)
              rw [hof, ← u1]
              exact ⟨_, _, _, h0, resA_hs rfl (by rw [putCells_take _ _ _ _ (by omega), evCells_take l' m (by omega)]) (by simp; omega)⟩
      · cases hs
    · cases hs
  · cases hs

end Go.Ev

namespace Go.Ev
open Go Go.RowKit Go.Proofs

def L3 : List (FuncId × Spec) := [(11, rightSpec), (31, metSpec), (33, aheadSpec), (34, fitsSpec), (12, refRightSpec), (32, placeSpec), (35, inSpec)]
noncomputable def C3 : Ctx := { P := Try.prog, prim := primL L3 }
theorem hP3 : PrimOK C3 := by
  refine .ofList (l := L3) rfl fun x hx => ?_
  simp only [L3, List.mem_cons, List.not_mem_nil, or_false] at hx
  rcases hx with rfl | rfl | rfl | rfl | rfl | rfl | rfl
  · exact ⟨right_sat.ctx rfl rfl, by kernel_rfl⟩
  · exact ⟨met_sat.ctx rfl rfl, by kernel_rfl⟩
  · exact ⟨ahead_sat.ctx rfl rfl, by kernel_rfl⟩
  · exact ⟨fits_sat.ctx rfl rfl, by kernel_rfl⟩
  · exact ⟨refRight_sat.ctx rfl rfl, by kernel_rfl⟩
  · exact ⟨place_sat.ctx rfl rfl, by kernel_rfl⟩
  · exact ⟨in_sat.ctx rfl rfl, by kernel_rfl⟩

end Go.Ev

namespace Go.Ev
open Go Go.RowKit Go.Proofs

theorem sa_yyL (full : Bool) (rows : List (List DV)) (n : Int) (i : Int) (es : List (Value × Bool × List DV)) (e : Evt) (i38 : Int) (x : X) (s : St) (h1 : decide (i < n) = true) (h2 : 0 ≤ i ∧ rows[Int.toNat i]? = some [di e.1, di e.2, db e.3, di e.an.1, di e.an.2, di e.an.3, di e.an.4]) (h3 : e.re = true) (h4 : wr64 (i + 1) = i38) (h5 : Ev C3 noO (Task.code 17 false (loopOf Try.prog 17 0) { σ := slots 40 [(2, AV.d (DV.v (Value.slice none 0 0))), (3, AV.d (DV.mp es)), (11, AV.d (DV.sl 7 full rows)), (12, vi n), (13, vi i38)], h := { } }) (Res.code x s)) :
    Ev C3 noO (Task.code 17 false (loopOf Try.prog 17 0) { σ := slots 40 [(2, AV.d (DV.v (Value.slice none 0 0))), (3, AV.d (DV.mp es)), (11, AV.d (DV.sl 7 full rows)), (12, vi n), (13, vi i)], h := { } }) (.code (x) s) :=
  sym_ev 60 _ [(site 17 14, Dec.b true), (site 17 16, Dec.row (Evt.row e)), (site 17 19, Dec.b true), (site 17 38, Dec.int i38), (site 17 8002, Dec.drop [139269] [2, 3, 11, 12, 13]), (site 17 8001, Dec.loop [2, 3, 11, 12, 13] x s)] _ [] _ (by kernel_rfl) (AllP_cons h1 (AllP_cons h2 (AllP_cons h3 (AllP_cons h4 (AllP_cons (rfl : true = true) (AllP_cons (rfl : true = true) (AllP_cons (rfl : true = true) (AllP_cons h5 AllP_nil))))))))
theorem sa_ynL (full : Bool) (rows : List (List DV)) (n : Int) (i : Int) (es : List (Value × Bool × List DV)) (e : Evt) (v : Int × Int) (i38 : Int) (x : X) (s : St) (h1 : decide (i < n) = true) (h2 : 0 ≤ i ∧ rows[Int.toNat i]? = some [di e.1, di e.2, db e.3, di e.an.1, di e.an.2, di e.an.3, di e.an.4]) (h3 : e.re = false) (h4 : lookupIn C3 59 es (AV.agg [vi e.1, vi e.2]) false = some (AV.agg [vi v.1, vi v.2])) (h5 : wr64 (i + 1) = i38) (h6 : Ev C3 noO (Task.code 17 false (loopOf Try.prog 17 0) { σ := slots 40 [(2, AV.st 4 [[di e.1, di e.2, di i, di v.2]] 139301 1), (3, AV.d (DV.mp es)), (11, AV.d (DV.sl 7 full rows)), (12, vi n), (13, vi i38)], h := { toks := [(139301, 1)] } }) (Res.code x s)) :
    Ev C3 noO (Task.code 17 false (loopOf Try.prog 17 0) { σ := slots 40 [(2, AV.d (DV.v (Value.slice none 0 0))), (3, AV.d (DV.mp es)), (11, AV.d (DV.sl 7 full rows)), (12, vi n), (13, vi i)], h := { } }) (.code (x) s) :=
  sym_ev 60 _ [(site 17 14, Dec.b true), (site 17 16, Dec.row (Evt.row e)), (site 17 19, Dec.b false), (site 17 33, Dec.look (aggP v)), (site 17 38, Dec.int i38), (site 17 8002, Dec.drop [139269] [2, 3, 11, 12, 13]), (site 17 8001, Dec.loop [2, 3, 11, 12, 13] x s)] _ [] _ (by kernel_rfl) (AllP_cons h1 (AllP_cons h2 (AllP_cons h3 (AllP_cons h4 (AllP_cons h5 (AllP_cons (rfl : true = true) (AllP_cons (rfl : true = true) (AllP_cons (rfl : true = true) (AllP_cons h6 AllP_nil)))))))))
theorem sa_n (full : Bool) (rows : List (List DV)) (n : Int) (i : Int) (es : List (Value × Bool × List DV)) (h1 : decide (i < n) = false) :
    Ev C3 noO (Task.code 17 false (loopOf Try.prog 17 0) { σ := slots 40 [(2, AV.d (DV.v (Value.slice none 0 0))), (3, AV.d (DV.mp es)), (11, AV.d (DV.sl 7 full rows)), (12, vi n), (13, vi i)], h := { } }) (.code (X.exit 0) { σ := slots 40 [(2, AV.d (DV.v (Value.slice none 0 0)))], h := { } }) :=
  symD_ev (n := 60) (sc := [(site 17 14, Dec.b false)]) (keep := [2]) (L := [139269]) (sc' := []) (by kernel_rfl) (AllP_cons h1 (AllP_cons (rfl : true = true) (AllP_cons (rfl : true = true) (AllP_cons (rfl : true = true) AllP_nil))))
theorem sb_yyL (full : Bool) (rows : List (List DV)) (n : Int) (i : Int) (es : List (Value × Bool × List DV)) (out : List (List DV)) (g : Nat) (e : Evt) (i38 : Int) (x : X) (s : St) (h1 : decide (i < n) = true) (h2 : 0 ≤ i ∧ rows[Int.toNat i]? = some [di e.1, di e.2, db e.3, di e.an.1, di e.an.2, di e.an.3, di e.an.4]) (h3 : e.re = true) (h4 : wr64 (i + 1) = i38) (h5 : Ev C3 noO (Task.code 17 false (loopOf Try.prog 17 0) { σ := slots 40 [(2, AV.st 4 out 139301 g), (3, AV.d (DV.mp es)), (11, AV.d (DV.sl 7 full rows)), (12, vi n), (13, vi i38)], h := { toks := [(139301, g)] } }) (Res.code x s)) :
    Ev C3 noO (Task.code 17 false (loopOf Try.prog 17 0) { σ := slots 40 [(2, AV.st 4 out (site 17 37) g), (3, AV.d (DV.mp es)), (11, AV.d (DV.sl 7 full rows)), (12, vi n), (13, vi i)], h := { toks := [(site 17 37, g)] } }) (.code (x) s) :=
  sym_ev 60 _ [(site 17 14, Dec.b true), (site 17 16, Dec.row (Evt.row e)), (site 17 19, Dec.b true), (site 17 38, Dec.int i38), (site 17 8002, Dec.drop [139269] [2, 3, 11, 12, 13]), (site 17 8001, Dec.loop [2, 3, 11, 12, 13] x s)] _ [] _ (by kernel_rfl) (AllP_cons h1 (AllP_cons h2 (AllP_cons h3 (AllP_cons h4 (AllP_cons (rfl : true = true) (AllP_cons (rfl : true = true) (AllP_cons (rfl : true = true) (AllP_cons h5 AllP_nil))))))))
theorem sb_ynL (full : Bool) (rows : List (List DV)) (n : Int) (i : Int) (es : List (Value × Bool × List DV)) (out : List (List DV)) (g : Nat) (e : Evt) (v : Int × Int) (i38 : Int) (x : X) (s : St) (h1 : decide (i < n) = true) (h2 : 0 ≤ i ∧ rows[Int.toNat i]? = some [di e.1, di e.2, db e.3, di e.an.1, di e.an.2, di e.an.3, di e.an.4]) (h3 : e.re = false) (h4 : lookupIn C3 59 es (AV.agg [vi e.1, vi e.2]) false = some (AV.agg [vi v.1, vi v.2])) (h5 : false = false ∧ g = g ∧ fitsP (List.length out) 1 32) (h6 : wr64 (i + 1) = i38) (h7 : Ev C3 noO (Task.code 17 false (loopOf Try.prog 17 0) { σ := slots 40 [(2, AV.st 4 (out ++ [[di e.1, di e.2, di i, di v.2]]) 139301 (g + 1 + 1)), (3, AV.d (DV.mp es)), (11, AV.d (DV.sl 7 full rows)), (12, vi n), (13, vi i38)], h := { toks := [(139301, g + 1 + 1)] } }) (Res.code x s)) :
    Ev C3 noO (Task.code 17 false (loopOf Try.prog 17 0) { σ := slots 40 [(2, AV.st 4 out (site 17 37) g), (3, AV.d (DV.mp es)), (11, AV.d (DV.sl 7 full rows)), (12, vi n), (13, vi i)], h := { toks := [(site 17 37, g)] } }) (.code (x) s) :=
  sym_ev 60 _ [(site 17 14, Dec.b true), (site 17 16, Dec.row (Evt.row e)), (site 17 19, Dec.b false), (site 17 33, Dec.look (aggP v)), (site 17 37, Dec.app false), (site 17 38, Dec.int i38), (site 17 8002, Dec.drop [139269] [2, 3, 11, 12, 13]), (site 17 8001, Dec.loop [2, 3, 11, 12, 13] x s)] _ [] _ (by kernel_rfl) (AllP_cons h1 (AllP_cons h2 (AllP_cons h3 (AllP_cons h4 (AllP_cons h5 (AllP_cons h6 (AllP_cons (rfl : true = true) (AllP_cons (rfl : true = true) (AllP_cons (rfl : true = true) (AllP_cons h7 AllP_nil))))))))))
theorem sb_n (full : Bool) (rows : List (List DV)) (n : Int) (i : Int) (es : List (Value × Bool × List DV)) (out : List (List DV)) (g : Nat) (h1 : decide (i < n) = false) :
    Ev C3 noO (Task.code 17 false (loopOf Try.prog 17 0) { σ := slots 40 [(2, AV.st 4 out (site 17 37) g), (3, AV.d (DV.mp es)), (11, AV.d (DV.sl 7 full rows)), (12, vi n), (13, vi i)], h := { toks := [(site 17 37, g)] } }) (.code (X.exit 0) { σ := slots 40 [(2, AV.st 4 out 139301 g)], h := { toks := [(139301, g)] } }) :=
  symD_ev (n := 60) (sc := [(site 17 14, Dec.b false)]) (keep := [2]) (L := [139269]) (sc' := []) (by kernel_rfl) (AllP_cons h1 (AllP_cons (rfl : true = true) (AllP_cons (rfl : true = true) (AllP_cons (rfl : true = true) AllP_nil))))
theorem sac_t1l1 (full : Bool) (rows : List (List DV)) (es : List (Value × Bool × List DV)) (out : List (List DV)) (g : Nat) (i12 : Int) (h1 : rightSpec [PV.one (DV.sl 7 full rows)] = some [PV.one (db true)]) (h2 : metSpec [PV.one (DV.sl 7 full rows)] = some [PV.one (DV.mp es)]) (h3 : ↑(List.length rows) = i12) (h4 : Ev C3 noO (Task.code 17 false (loopOf Try.prog 17 0) { σ := slots 40 [(2, AV.d (DV.v (Value.slice none 0 0))), (3, AV.d (DV.mp es)), (11, AV.d (DV.sl 7 full rows)), (12, vi i12), (13, vi 0)], h := { } }) (Res.code (X.exit 0) { σ := slots 40 [(2, AV.d (DV.v (Value.slice none 0 0)))], h := { } })) :
    Ev C3 noO (Task.call 17 [AV.d (DV.sl 7 full rows)] { }) (.val (AV.d (DV.v (Value.slice none 0 0))) { }) :=
  sym_ev 60 _ [(site 17 7, Dec.prim [pbool true]), (site 17 10, Dec.prim [PV.one (DV.mp es)]), (site 17 12, Dec.int i12), (site 17 8001, Dec.loop [2, 3, 11, 12, 13] (X.exit 0) { σ := slots 40 [(2, AV.d (DV.v (Value.slice none 0 0)))], h := { } })] _ [] _ (by kernel_rfl) (AllP_cons h1 (AllP_cons h2 (AllP_cons h3 (AllP_cons h4 AllP_nil))))
theorem sac_t1l2 (full : Bool) (rows : List (List DV)) (es : List (Value × Bool × List DV)) (out : List (List DV)) (g : Nat) (i12 : Int) (h1 : rightSpec [PV.one (DV.sl 7 full rows)] = some [PV.one (db true)]) (h2 : metSpec [PV.one (DV.sl 7 full rows)] = some [PV.one (DV.mp es)]) (h3 : ↑(List.length rows) = i12) (h4 : Ev C3 noO (Task.code 17 false (loopOf Try.prog 17 0) { σ := slots 40 [(2, AV.d (DV.v (Value.slice none 0 0))), (3, AV.d (DV.mp es)), (11, AV.d (DV.sl 7 full rows)), (12, vi i12), (13, vi 0)], h := { } }) (Res.code (X.exit 0) { σ := slots 40 [(2, AV.st 4 out (site 17 37) g)], h := { toks := [(site 17 37, g)] } })) :
    Ev C3 noO (Task.call 17 [AV.d (DV.sl 7 full rows)] { }) (.val (AV.st 4 out 139301 g) { toks := [(139301, g)] }) :=
  sym_ev 60 _ [(site 17 7, Dec.prim [pbool true]), (site 17 10, Dec.prim [PV.one (DV.mp es)]), (site 17 12, Dec.int i12), (site 17 8001, Dec.loop [2, 3, 11, 12, 13] (X.exit 0) { σ := slots 40 [(2, AV.st 4 out (site 17 37) g)], h := { toks := [(site 17 37, g)] } })] _ [] _ (by kernel_rfl) (AllP_cons h1 (AllP_cons h2 (AllP_cons h3 (AllP_cons h4 AllP_nil))))
theorem sac_t2 (full : Bool) (rows : List (List DV)) (es : List (Value × Bool × List DV)) (out : List (List DV)) (g : Nat) (h1 : rightSpec [PV.one (DV.sl 7 full rows)] = some [PV.one (db false)]) :
    Ev C3 noO (Task.call 17 [AV.d (DV.sl 7 full rows)] { }) (.val (AV.d (DV.v (Value.slice none 0 0))) { }) :=
  sym_ev 60 _ [(site 17 7, Dec.prim [pbool false])] _ [] _ (by kernel_rfl) (AllP_cons h1 AllP_nil)
theorem saN_ (h1 : Ev C3 noO (Task.code 17 false (loopOf Try.prog 17 0) { σ := slots 40 [(2, AV.d (DV.v (Value.slice none 0 0))), (3, AV.d (DV.mp [])), (11, AV.d (DV.v (Value.slice none 0 0))), (12, vi 0), (13, vi 0)], h := { } }) (Res.code (X.exit 0) { σ := slots 40 [(2, AV.d (DV.v (Value.slice none 0 0)))], h := { } })) :
    Ev C3 noO (Task.call 17 [AV.d (DV.v (Value.slice none 0 0))] { }) (.val (AV.d (DV.v (Value.slice none 0 0))) { }) :=
  sym_ev 60 _ [(site 17 8001, Dec.loop [2, 3, 11, 12, 13] (X.exit 0) { σ := slots 40 [(2, AV.d (DV.v (Value.slice none 0 0)))], h := { } })] _ [] _ (by kernel_rfl) (AllP_cons h1 AllP_nil)
theorem saA_ (es : List (Value × Bool × List DV)) :
    Ev C3 noO (Task.code 17 false (loopOf Try.prog 17 0) { σ := slots 40 [(2, AV.d (DV.v (Value.slice none 0 0))), (3, AV.d (DV.mp es)), (11, AV.d (DV.v (Value.slice none 0 0))), (12, vi 0), (13, vi 0)], h := { } }) (.code (X.exit 0) { σ := slots 40 [(2, AV.d (DV.v (Value.slice none 0 0)))], h := { } }) :=
  symD_ev (n := 60) (sc := []) (keep := [2]) (L := [139269]) (sc' := []) (by kernel_rfl) (AllP_cons (rfl : true = true) (AllP_cons (rfl : true = true) (AllP_cons (rfl : true = true) AllP_nil)))

end Go.Ev

namespace Go.Ev
open Go Go.RowKit Go.Proofs

theorem ta_yyL (full : Bool) (rows : List (List DV)) (i : Int) (i10 : Int) (e : Evt) (i13 : Int) (x : X) (s : St) (h1 : ↑(List.length rows) = i10) (h2 : decide (i < i10) = true) (h3 : 0 ≤ i ∧ rows[Int.toNat i]? = some [di e.1, di e.2, db e.3, di e.an.1, di e.an.2, di e.an.3, di e.an.4]) (h4 : e.re = true) (h5 : wr64 (i + 1) = i13) (h6 : Ev C3 noO (Task.code 18 false (loopOf Try.prog 18 0) { σ := slots 49 [(0, AV.d (DV.sl 7 full rows)), (3, AV.d (DV.v (Value.slice none 0 0))), (4, vi i13)], h := { } }) (Res.code x s)) :
    Ev C3 noO (Task.code 18 false (loopOf Try.prog 18 0) { σ := slots 49 [(0, AV.d (DV.sl 7 full rows)), (3, AV.d (DV.v (Value.slice none 0 0))), (4, vi i)], h := { } }) (.code (x) s) :=
  sym_ev 60 _ [(site 18 10, Dec.int i10), (site 18 11, Dec.b true), (site 18 16, Dec.row (Evt.row e)), (site 18 18, Dec.b true), (site 18 13, Dec.int i13), (site 18 8001, Dec.loop [0, 3, 4] x s)] _ [] _ (by kernel_rfl) (AllP_cons h1 (AllP_cons h2 (AllP_cons h3 (AllP_cons h4 (AllP_cons h5 (AllP_cons h6 AllP_nil))))))
theorem ta_ynL (full : Bool) (rows : List (List DV)) (i : Int) (i10 : Int) (e : Evt) (e2 : Evt) (e3 : Evt) (e4 : Evt) (e5 : Evt) (k : Int) (i13 : Int) (x : X) (s : St) (h1 : ↑(List.length rows) = i10) (h2 : decide (i < i10) = true) (h3 : 0 ≤ i ∧ rows[Int.toNat i]? = some [di e.1, di e.2, db e.3, di e.an.1, di e.an.2, di e.an.3, di e.an.4]) (h4 : e.re = false) (h5 : 0 ≤ i ∧ rows[Int.toNat i]? = some [di e2.1, di e2.2, db e2.3, di e2.an.1, di e2.an.2, di e2.an.3, di e2.an.4]) (h6 : 0 ≤ i ∧ rows[Int.toNat i]? = some [di e3.1, di e3.2, db e3.3, di e3.an.1, di e3.an.2, di e3.an.3, di e3.an.4]) (h7 : 0 ≤ i ∧ rows[Int.toNat i]? = some [di e4.1, di e4.2, db e4.3, di e4.an.1, di e4.an.2, di e4.an.3, di e4.an.4]) (h8 : 0 ≤ i ∧ rows[Int.toNat i]? = some [di e5.1, di e5.2, db e5.3, di e5.an.1, di e5.an.2, di e5.an.3, di e5.an.4]) (h9 : placeSpec [PV.one (DV.sl 7 full rows), PV.agg [di e4.1, di e5.2], PV.one (db true)] = some [PV.one (di k)]) (h10 : wr64 (i + 1) = i13) (h11 : Ev C3 noO (Task.code 18 false (loopOf Try.prog 18 0) { σ := slots 49 [(0, AV.d (DV.sl 7 full rows)), (3, AV.st 4 [[di e2.1, di e3.2, di i, di k]] 147503 1), (4, vi i13)], h := { toks := [(147503, 1)] } }) (Res.code x s)) :
    Ev C3 noO (Task.code 18 false (loopOf Try.prog 18 0) { σ := slots 49 [(0, AV.d (DV.sl 7 full rows)), (3, AV.d (DV.v (Value.slice none 0 0))), (4, vi i)], h := { } }) (.code (x) s) :=
  sym_ev 60 _ [(site 18 10, Dec.int i10), (site 18 11, Dec.b true), (site 18 16, Dec.row (Evt.row e)), (site 18 18, Dec.b false), (site 18 23, Dec.row (Evt.row e2)), (site 18 28, Dec.row (Evt.row e3)), (site 18 35, Dec.row (Evt.row e4)), (site 18 40, Dec.row (Evt.row e5)), (site 18 44, Dec.prim [pint k]), (site 18 13, Dec.int i13), (site 18 8001, Dec.loop [0, 3, 4] x s)] _ [] _ (by kernel_rfl) (AllP_cons h1 (AllP_cons h2 (AllP_cons h3 (AllP_cons h4 (AllP_cons h5 (AllP_cons h6 (AllP_cons h7 (AllP_cons h8 (AllP_cons h9 (AllP_cons h10 (AllP_cons h11 AllP_nil)))))))))))
theorem ta_n (full : Bool) (rows : List (List DV)) (i : Int) (i10 : Int) (h1 : ↑(List.length rows) = i10) (h2 : decide (i < i10) = false) :
    Ev C3 noO (Task.code 18 false (loopOf Try.prog 18 0) { σ := slots 49 [(0, AV.d (DV.sl 7 full rows)), (3, AV.d (DV.v (Value.slice none 0 0))), (4, vi i)], h := { } }) (.code (X.exit 0) { σ := slots 49 [(3, AV.d (DV.v (Value.slice none 0 0)))], h := { } }) :=
  symM_ev (n := 60) (sc := [(site 18 10, Dec.int i10), (site 18 11, Dec.b false)]) (keep := [3]) (sc' := []) (by kernel_rfl) (AllP_cons h1 (AllP_cons h2 AllP_nil))
theorem tb_yyL (full : Bool) (rows : List (List DV)) (i : Int) (out : List (List DV)) (g : Nat) (i10 : Int) (e : Evt) (i13 : Int) (x : X) (s : St) (h1 : ↑(List.length rows) = i10) (h2 : decide (i < i10) = true) (h3 : 0 ≤ i ∧ rows[Int.toNat i]? = some [di e.1, di e.2, db e.3, di e.an.1, di e.an.2, di e.an.3, di e.an.4]) (h4 : e.re = true) (h5 : wr64 (i + 1) = i13) (h6 : Ev C3 noO (Task.code 18 false (loopOf Try.prog 18 0) { σ := slots 49 [(0, AV.d (DV.sl 7 full rows)), (3, AV.st 4 out 147503 g), (4, vi i13)], h := { toks := [(147503, g)] } }) (Res.code x s)) :
    Ev C3 noO (Task.code 18 false (loopOf Try.prog 18 0) { σ := slots 49 [(0, AV.d (DV.sl 7 full rows)), (3, AV.st 4 out (site 18 47) g), (4, vi i)], h := { toks := [(site 18 47, g)] } }) (.code (x) s) :=
  sym_ev 60 _ [(site 18 10, Dec.int i10), (site 18 11, Dec.b true), (site 18 16, Dec.row (Evt.row e)), (site 18 18, Dec.b true), (site 18 13, Dec.int i13), (site 18 8001, Dec.loop [0, 3, 4] x s)] _ [] _ (by kernel_rfl) (AllP_cons h1 (AllP_cons h2 (AllP_cons h3 (AllP_cons h4 (AllP_cons h5 (AllP_cons h6 AllP_nil))))))
theorem tb_ynL (full : Bool) (rows : List (List DV)) (i : Int) (out : List (List DV)) (g : Nat) (i10 : Int) (e : Evt) (e2 : Evt) (e3 : Evt) (e4 : Evt) (e5 : Evt) (k : Int) (i13 : Int) (x : X) (s : St) (h1 : ↑(List.length rows) = i10) (h2 : decide (i < i10) = true) (h3 : 0 ≤ i ∧ rows[Int.toNat i]? = some [di e.1, di e.2, db e.3, di e.an.1, di e.an.2, di e.an.3, di e.an.4]) (h4 : e.re = false) (h5 : 0 ≤ i ∧ rows[Int.toNat i]? = some [di e2.1, di e2.2, db e2.3, di e2.an.1, di e2.an.2, di e2.an.3, di e2.an.4]) (h6 : 0 ≤ i ∧ rows[Int.toNat i]? = some [di e3.1, di e3.2, db e3.3, di e3.an.1, di e3.an.2, di e3.an.3, di e3.an.4]) (h7 : 0 ≤ i ∧ rows[Int.toNat i]? = some [di e4.1, di e4.2, db e4.3, di e4.an.1, di e4.an.2, di e4.an.3, di e4.an.4]) (h8 : 0 ≤ i ∧ rows[Int.toNat i]? = some [di e5.1, di e5.2, db e5.3, di e5.an.1, di e5.an.2, di e5.an.3, di e5.an.4]) (h9 : placeSpec [PV.one (DV.sl 7 full rows), PV.agg [di e4.1, di e5.2], PV.one (db true)] = some [PV.one (di k)]) (h10 : false = false ∧ g = g ∧ fitsP (List.length out) 1 32) (h11 : wr64 (i + 1) = i13) (h12 : Ev C3 noO (Task.code 18 false (loopOf Try.prog 18 0) { σ := slots 49 [(0, AV.d (DV.sl 7 full rows)), (3, AV.st 4 (out ++ [[di e2.1, di e3.2, di i, di k]]) 147503 (g + 1 + 1)), (4, vi i13)], h := { toks := [(147503, g + 1 + 1)] } }) (Res.code x s)) :
    Ev C3 noO (Task.code 18 false (loopOf Try.prog 18 0) { σ := slots 49 [(0, AV.d (DV.sl 7 full rows)), (3, AV.st 4 out (site 18 47) g), (4, vi i)], h := { toks := [(site 18 47, g)] } }) (.code (x) s) :=
  sym_ev 60 _ [(site 18 10, Dec.int i10), (site 18 11, Dec.b true), (site 18 16, Dec.row (Evt.row e)), (site 18 18, Dec.b false), (site 18 23, Dec.row (Evt.row e2)), (site 18 28, Dec.row (Evt.row e3)), (site 18 35, Dec.row (Evt.row e4)), (site 18 40, Dec.row (Evt.row e5)), (site 18 44, Dec.prim [pint k]), (site 18 47, Dec.app false), (site 18 13, Dec.int i13), (site 18 8001, Dec.loop [0, 3, 4] x s)] _ [] _ (by kernel_rfl) (AllP_cons h1 (AllP_cons h2 (AllP_cons h3 (AllP_cons h4 (AllP_cons h5 (AllP_cons h6 (AllP_cons h7 (AllP_cons h8 (AllP_cons h9 (AllP_cons h10 (AllP_cons h11 (AllP_cons h12 AllP_nil))))))))))))
theorem tb_n (full : Bool) (rows : List (List DV)) (i : Int) (out : List (List DV)) (g : Nat) (i10 : Int) (h1 : ↑(List.length rows) = i10) (h2 : decide (i < i10) = false) :
    Ev C3 noO (Task.code 18 false (loopOf Try.prog 18 0) { σ := slots 49 [(0, AV.d (DV.sl 7 full rows)), (3, AV.st 4 out (site 18 47) g), (4, vi i)], h := { toks := [(site 18 47, g)] } }) (.code (X.exit 0) { σ := slots 49 [(3, AV.st 4 out 147503 g)], h := { toks := [(147503, g)] } }) :=
  symM_ev (n := 60) (sc := [(site 18 10, Dec.int i10), (site 18 11, Dec.b false)]) (keep := [3]) (sc' := []) (by kernel_rfl) (AllP_cons h1 (AllP_cons h2 AllP_nil))
theorem tac_t1l1 (full : Bool) (rows : List (List DV)) (out : List (List DV)) (g : Nat) (h1 : refRightSpec [PV.one (DV.sl 7 full rows)] = some [PV.one (db true)]) (h2 : Ev C3 noO (Task.code 18 false (loopOf Try.prog 18 0) { σ := slots 49 [(0, AV.d (DV.sl 7 full rows)), (3, AV.d (DV.v (Value.slice none 0 0))), (4, vi 0)], h := { } }) (Res.code (X.exit 0) { σ := slots 49 [(3, AV.d (DV.v (Value.slice none 0 0)))], h := { } })) :
    Ev C3 noO (Task.call 18 [AV.d (DV.sl 7 full rows)] { }) (.val (AV.d (DV.v (Value.slice none 0 0))) { }) :=
  sym_ev 60 _ [(site 18 6, Dec.prim [pbool true]), (site 18 8001, Dec.loop [0, 3, 4] (X.exit 0) { σ := slots 49 [(3, AV.d (DV.v (Value.slice none 0 0)))], h := { } })] _ [] _ (by kernel_rfl) (AllP_cons h1 (AllP_cons h2 AllP_nil))
theorem tac_t1l2 (full : Bool) (rows : List (List DV)) (out : List (List DV)) (g : Nat) (h1 : refRightSpec [PV.one (DV.sl 7 full rows)] = some [PV.one (db true)]) (h2 : Ev C3 noO (Task.code 18 false (loopOf Try.prog 18 0) { σ := slots 49 [(0, AV.d (DV.sl 7 full rows)), (3, AV.d (DV.v (Value.slice none 0 0))), (4, vi 0)], h := { } }) (Res.code (X.exit 0) { σ := slots 49 [(3, AV.st 4 out (site 18 47) g)], h := { toks := [(site 18 47, g)] } })) :
    Ev C3 noO (Task.call 18 [AV.d (DV.sl 7 full rows)] { }) (.val (AV.st 4 out 147503 g) { toks := [(147503, g)] }) :=
  sym_ev 60 _ [(site 18 6, Dec.prim [pbool true]), (site 18 8001, Dec.loop [0, 3, 4] (X.exit 0) { σ := slots 49 [(3, AV.st 4 out (site 18 47) g)], h := { toks := [(site 18 47, g)] } })] _ [] _ (by kernel_rfl) (AllP_cons h1 (AllP_cons h2 AllP_nil))
theorem tac_t2 (full : Bool) (rows : List (List DV)) (out : List (List DV)) (g : Nat) (h1 : refRightSpec [PV.one (DV.sl 7 full rows)] = some [PV.one (db false)]) :
    Ev C3 noO (Task.call 18 [AV.d (DV.sl 7 full rows)] { }) (.val (AV.d (DV.v (Value.slice none 0 0))) { }) :=
  sym_ev 60 _ [(site 18 6, Dec.prim [pbool false])] _ [] _ (by kernel_rfl) (AllP_cons h1 AllP_nil)
theorem taN_ (h1 : Ev C3 noO (Task.code 18 false (loopOf Try.prog 18 0) { σ := slots 49 [(0, AV.d (DV.v (Value.slice none 0 0))), (3, AV.d (DV.v (Value.slice none 0 0))), (4, vi 0)], h := { } }) (Res.code (X.exit 0) { σ := slots 49 [(3, AV.d (DV.v (Value.slice none 0 0)))], h := { } })) :
    Ev C3 noO (Task.call 18 [AV.d (DV.v (Value.slice none 0 0))] { }) (.val (AV.d (DV.v (Value.slice none 0 0))) { }) :=
  sym_ev 60 _ [(site 18 8001, Dec.loop [0, 3, 4] (X.exit 0) { σ := slots 49 [(3, AV.d (DV.v (Value.slice none 0 0)))], h := { } })] _ [] _ (by kernel_rfl) (AllP_cons h1 AllP_nil)
theorem taA_ : Ev C3 noO (Task.code 18 false (loopOf Try.prog 18 0) { σ := slots 49 [(0, AV.d (DV.v (Value.slice none 0 0))), (3, AV.d (DV.v (Value.slice none 0 0))), (4, vi 0)], h := { } }) (.code (X.exit 0) { σ := slots 49 [(3, AV.d (DV.v (Value.slice none 0 0)))], h := { } }) :=
  symM_ev (n := 60) (sc := []) (keep := [3]) (sc' := []) (by kernel_rfl) AllP_nil

end Go.Ev

namespace Go.Ev
open Go Go.RowKit Go.Proofs

theorem bfs_t1t1t1y (fy : Bool) (ry : List (List DV)) (a : Int × Int) (b : Int × Int) (es : List (Value × Bool × List DV)) (u : Int × Int) (v : Int × Int) (t : Bool) (h1 : rightSpec [PV.one (DV.sl 7 fy ry)] = some [PV.one (db true)]) (h2 : metSpec [PV.one (DV.sl 7 fy ry)] = some [PV.one (DV.mp es)]) (h3 : lookupIn C3 59 es (AV.agg [vi a.1, vi a.2]) true = some (AV.tup [AV.agg [vi u.1, vi u.2], vb true])) (h4 : lookupIn C3 59 es (AV.agg [vi b.1, vi b.2]) true = some (AV.tup [AV.agg [vi v.1, vi v.2], vb true])) (h5 : aheadSpec [PV.agg [di u.1, di u.2], PV.agg [di v.1, di v.2]] = some [PV.one (db t)]) (h6 : t = true) :
    Ev C3 noO (Task.call 19 [AV.d (DV.sl 7 fy ry), aggP a, aggP b] { }) (.val (vb true) { objs := [(155652, 1, [AO.cells [vi a.1, vi a.2] false]), (155653, 1, [AO.cells [vi b.1, vi b.2] false]), (155656, 1, [AO.cells [vi u.1, vi u.2] false]), (155658, 1, [AO.cells [vi v.1, vi v.2] false])] }) :=
  sym_ev 60 _ [(site 19 13, Dec.prim [pbool true]), (site 19 16, Dec.prim [PV.one (DV.mp es)]), (site 19 20, Dec.look (AV.tup [aggP u, vb true])), (site 19 26, Dec.look (AV.tup [aggP v, vb true])), (site 19 36, Dec.prim [pbool t]), (site 19 37, Dec.b true)] _ [] _ (by kernel_rfl) (AllP_cons h1 (AllP_cons h2 (AllP_cons h3 (AllP_cons h4 (AllP_cons h5 (AllP_cons h6 AllP_nil))))))
theorem bfs_t1t1t1n (fy : Bool) (ry : List (List DV)) (a : Int × Int) (b : Int × Int) (es : List (Value × Bool × List DV)) (u : Int × Int) (v : Int × Int) (t : Bool) (h1 : rightSpec [PV.one (DV.sl 7 fy ry)] = some [PV.one (db true)]) (h2 : metSpec [PV.one (DV.sl 7 fy ry)] = some [PV.one (DV.mp es)]) (h3 : lookupIn C3 59 es (AV.agg [vi a.1, vi a.2]) true = some (AV.tup [AV.agg [vi u.1, vi u.2], vb true])) (h4 : lookupIn C3 59 es (AV.agg [vi b.1, vi b.2]) true = some (AV.tup [AV.agg [vi v.1, vi v.2], vb true])) (h5 : aheadSpec [PV.agg [di u.1, di u.2], PV.agg [di v.1, di v.2]] = some [PV.one (db t)]) (h6 : t = false) :
    Ev C3 noO (Task.call 19 [AV.d (DV.sl 7 fy ry), aggP a, aggP b] { }) (.val (vb false) { objs := [(155652, 1, [AO.cells [vi a.1, vi a.2] false]), (155653, 1, [AO.cells [vi b.1, vi b.2] false]), (155656, 1, [AO.cells [vi u.1, vi u.2] false]), (155658, 1, [AO.cells [vi v.1, vi v.2] false])] }) :=
  sym_ev 60 _ [(site 19 13, Dec.prim [pbool true]), (site 19 16, Dec.prim [PV.one (DV.mp es)]), (site 19 20, Dec.look (AV.tup [aggP u, vb true])), (site 19 26, Dec.look (AV.tup [aggP v, vb true])), (site 19 36, Dec.prim [pbool t]), (site 19 37, Dec.b false)] _ [] _ (by kernel_rfl) (AllP_cons h1 (AllP_cons h2 (AllP_cons h3 (AllP_cons h4 (AllP_cons h5 (AllP_cons h6 AllP_nil))))))
theorem bfs_t1t1t2 (fy : Bool) (ry : List (List DV)) (a : Int × Int) (b : Int × Int) (es : List (Value × Bool × List DV)) (u : Int × Int) (v : Int × Int) (t : Bool) (h1 : rightSpec [PV.one (DV.sl 7 fy ry)] = some [PV.one (db true)]) (h2 : metSpec [PV.one (DV.sl 7 fy ry)] = some [PV.one (DV.mp es)]) (h3 : lookupIn C3 59 es (AV.agg [vi a.1, vi a.2]) true = some (AV.tup [AV.agg [vi u.1, vi u.2], vb true])) (h4 : lookupIn C3 59 es (AV.agg [vi b.1, vi b.2]) true = some (AV.tup [AV.agg [vi v.1, vi v.2], vb false])) :
    Ev C3 noO (Task.call 19 [AV.d (DV.sl 7 fy ry), aggP a, aggP b] { }) (.val (vb false) { objs := [(155652, 1, [AO.cells [vi a.1, vi a.2] false]), (155653, 1, [AO.cells [vi b.1, vi b.2] false]), (155656, 1, [AO.cells [vi u.1, vi u.2] false]), (155658, 1, [AO.cells [vi v.1, vi v.2] false])] }) :=
  sym_ev 60 _ [(site 19 13, Dec.prim [pbool true]), (site 19 16, Dec.prim [PV.one (DV.mp es)]), (site 19 20, Dec.look (AV.tup [aggP u, vb true])), (site 19 26, Dec.look (AV.tup [aggP v, vb false]))] _ [] _ (by kernel_rfl) (AllP_cons h1 (AllP_cons h2 (AllP_cons h3 (AllP_cons h4 AllP_nil))))
theorem bfs_t1t2t1 (fy : Bool) (ry : List (List DV)) (a : Int × Int) (b : Int × Int) (es : List (Value × Bool × List DV)) (u : Int × Int) (v : Int × Int) (t : Bool) (h1 : rightSpec [PV.one (DV.sl 7 fy ry)] = some [PV.one (db true)]) (h2 : metSpec [PV.one (DV.sl 7 fy ry)] = some [PV.one (DV.mp es)]) (h3 : lookupIn C3 59 es (AV.agg [vi a.1, vi a.2]) true = some (AV.tup [AV.agg [vi u.1, vi u.2], vb false])) (h4 : lookupIn C3 59 es (AV.agg [vi b.1, vi b.2]) true = some (AV.tup [AV.agg [vi v.1, vi v.2], vb true])) :
    Ev C3 noO (Task.call 19 [AV.d (DV.sl 7 fy ry), aggP a, aggP b] { }) (.val (vb false) { objs := [(155652, 1, [AO.cells [vi a.1, vi a.2] false]), (155653, 1, [AO.cells [vi b.1, vi b.2] false]), (155656, 1, [AO.cells [vi u.1, vi u.2] false]), (155658, 1, [AO.cells [vi v.1, vi v.2] false])] }) :=
  sym_ev 60 _ [(site 19 13, Dec.prim [pbool true]), (site 19 16, Dec.prim [PV.one (DV.mp es)]), (site 19 20, Dec.look (AV.tup [aggP u, vb false])), (site 19 26, Dec.look (AV.tup [aggP v, vb true]))] _ [] _ (by kernel_rfl) (AllP_cons h1 (AllP_cons h2 (AllP_cons h3 (AllP_cons h4 AllP_nil))))
theorem bfs_t1t2t2 (fy : Bool) (ry : List (List DV)) (a : Int × Int) (b : Int × Int) (es : List (Value × Bool × List DV)) (u : Int × Int) (v : Int × Int) (t : Bool) (h1 : rightSpec [PV.one (DV.sl 7 fy ry)] = some [PV.one (db true)]) (h2 : metSpec [PV.one (DV.sl 7 fy ry)] = some [PV.one (DV.mp es)]) (h3 : lookupIn C3 59 es (AV.agg [vi a.1, vi a.2]) true = some (AV.tup [AV.agg [vi u.1, vi u.2], vb false])) (h4 : lookupIn C3 59 es (AV.agg [vi b.1, vi b.2]) true = some (AV.tup [AV.agg [vi v.1, vi v.2], vb false])) :
    Ev C3 noO (Task.call 19 [AV.d (DV.sl 7 fy ry), aggP a, aggP b] { }) (.val (vb false) { objs := [(155652, 1, [AO.cells [vi a.1, vi a.2] false]), (155653, 1, [AO.cells [vi b.1, vi b.2] false]), (155656, 1, [AO.cells [vi u.1, vi u.2] false]), (155658, 1, [AO.cells [vi v.1, vi v.2] false])] }) :=
  sym_ev 60 _ [(site 19 13, Dec.prim [pbool true]), (site 19 16, Dec.prim [PV.one (DV.mp es)]), (site 19 20, Dec.look (AV.tup [aggP u, vb false])), (site 19 26, Dec.look (AV.tup [aggP v, vb false]))] _ [] _ (by kernel_rfl) (AllP_cons h1 (AllP_cons h2 (AllP_cons h3 (AllP_cons h4 AllP_nil))))
theorem bfs_t2 (fy : Bool) (ry : List (List DV)) (a : Int × Int) (b : Int × Int) (es : List (Value × Bool × List DV)) (u : Int × Int) (v : Int × Int) (t : Bool) (h1 : rightSpec [PV.one (DV.sl 7 fy ry)] = some [PV.one (db false)]) :
    Ev C3 noO (Task.call 19 [AV.d (DV.sl 7 fy ry), aggP a, aggP b] { }) (.val (vb false) { objs := [(155652, 1, [AO.cells [vi a.1, vi a.2] false]), (155653, 1, [AO.cells [vi b.1, vi b.2] false])] }) :=
  sym_ev 60 _ [(site 19 13, Dec.prim [pbool false])] _ [] _ (by kernel_rfl) (AllP_cons h1 AllP_nil)
theorem bfn_ (a : Int × Int) (b : Int × Int) (es : List (Value × Bool × List DV)) (u : Int × Int) (v : Int × Int) (t : Bool) :
    Ev C3 noO (Task.call 19 [AV.d (DV.v (Value.slice none 0 0)), aggP a, aggP b] { }) (.val (vb false) { objs := [(155652, 1, [AO.cells [vi a.1, vi a.2] false]), (155653, 1, [AO.cells [vi b.1, vi b.2] false]), (155656, 1, [AO.cells [vi 0, vi 0] false]), (155658, 1, [AO.cells [vi 0, vi 0] false])] }) :=
  sym_ev 60 _ [] _ [] _ (by kernel_rfl) AllP_nil

end Go.Ev

namespace Go.Ev
open Go Go.RowKit Go.Proofs

theorem rbfs_t1yy (fy : Bool) (ry : List (List DV)) (a : Int × Int) (b : Int × Int) (m : Int) (n : Int) (h1 : refRightSpec [PV.one (DV.sl 7 fy ry)] = some [PV.one (db true)]) (h2 : placeSpec [PV.one (DV.sl 7 fy ry), PV.agg [di a.1, di a.2], PV.one (db true)] = some [PV.one (di m)]) (h3 : placeSpec [PV.one (DV.sl 7 fy ry), PV.agg [di b.1, di b.2], PV.one (db false)] = some [PV.one (di n)]) (h4 : decide (m ≥ 0) = true) (h5 : decide (n > m) = true) :
    Ev C3 noO (Task.call 20 [AV.d (DV.sl 7 fy ry), aggP a, aggP b] { }) (.val (vb true) { objs := [(163844, 1, [AO.cells [vi a.1, vi a.2] false]), (163845, 1, [AO.cells [vi b.1, vi b.2] false])] }) :=
  sym_ev 60 _ [(site 20 10, Dec.prim [pbool true]), (site 20 14, Dec.prim [pint m]), (site 20 17, Dec.prim [pint n]), (site 20 19, Dec.b true), (site 20 23, Dec.b true)] _ [] _ (by kernel_rfl) (AllP_cons h1 (AllP_cons h2 (AllP_cons h3 (AllP_cons h4 (AllP_cons h5 AllP_nil)))))
theorem rbfs_t1yn (fy : Bool) (ry : List (List DV)) (a : Int × Int) (b : Int × Int) (m : Int) (n : Int) (h1 : refRightSpec [PV.one (DV.sl 7 fy ry)] = some [PV.one (db true)]) (h2 : placeSpec [PV.one (DV.sl 7 fy ry), PV.agg [di a.1, di a.2], PV.one (db true)] = some [PV.one (di m)]) (h3 : placeSpec [PV.one (DV.sl 7 fy ry), PV.agg [di b.1, di b.2], PV.one (db false)] = some [PV.one (di n)]) (h4 : decide (m ≥ 0) = true) (h5 : decide (n > m) = false) :
    Ev C3 noO (Task.call 20 [AV.d (DV.sl 7 fy ry), aggP a, aggP b] { }) (.val (vb false) { objs := [(163844, 1, [AO.cells [vi a.1, vi a.2] false]), (163845, 1, [AO.cells [vi b.1, vi b.2] false])] }) :=
  sym_ev 60 _ [(site 20 10, Dec.prim [pbool true]), (site 20 14, Dec.prim [pint m]), (site 20 17, Dec.prim [pint n]), (site 20 19, Dec.b true), (site 20 23, Dec.b false)] _ [] _ (by kernel_rfl) (AllP_cons h1 (AllP_cons h2 (AllP_cons h3 (AllP_cons h4 (AllP_cons h5 AllP_nil)))))
theorem rbfs_t1n (fy : Bool) (ry : List (List DV)) (a : Int × Int) (b : Int × Int) (m : Int) (n : Int) (h1 : refRightSpec [PV.one (DV.sl 7 fy ry)] = some [PV.one (db true)]) (h2 : placeSpec [PV.one (DV.sl 7 fy ry), PV.agg [di a.1, di a.2], PV.one (db true)] = some [PV.one (di m)]) (h3 : placeSpec [PV.one (DV.sl 7 fy ry), PV.agg [di b.1, di b.2], PV.one (db false)] = some [PV.one (di n)]) (h4 : decide (m ≥ 0) = false) :
    Ev C3 noO (Task.call 20 [AV.d (DV.sl 7 fy ry), aggP a, aggP b] { }) (.val (vb false) { objs := [(163844, 1, [AO.cells [vi a.1, vi a.2] false]), (163845, 1, [AO.cells [vi b.1, vi b.2] false])] }) :=
  sym_ev 60 _ [(site 20 10, Dec.prim [pbool true]), (site 20 14, Dec.prim [pint m]), (site 20 17, Dec.prim [pint n]), (site 20 19, Dec.b false)] _ [] _ (by kernel_rfl) (AllP_cons h1 (AllP_cons h2 (AllP_cons h3 (AllP_cons h4 AllP_nil))))
theorem rbfs_t2 (fy : Bool) (ry : List (List DV)) (a : Int × Int) (b : Int × Int) (m : Int) (n : Int) (h1 : refRightSpec [PV.one (DV.sl 7 fy ry)] = some [PV.one (db false)]) :
    Ev C3 noO (Task.call 20 [AV.d (DV.sl 7 fy ry), aggP a, aggP b] { }) (.val (vb false) { objs := [(163844, 1, [AO.cells [vi a.1, vi a.2] false]), (163845, 1, [AO.cells [vi b.1, vi b.2] false])] }) :=
  sym_ev 60 _ [(site 20 10, Dec.prim [pbool false])] _ [] _ (by kernel_rfl) (AllP_cons h1 AllP_nil)
theorem rbfn_ (a : Int × Int) (b : Int × Int) (m : Int) (n : Int) :
    Ev C3 noO (Task.call 20 [AV.d (DV.v (Value.slice none 0 0)), aggP a, aggP b] { }) (.val (vb false) { objs := [(163844, 1, [AO.cells [vi a.1, vi a.2] false]), (163845, 1, [AO.cells [vi b.1, vi b.2] false])] }) :=
  sym_ev 60 _ [] _ [] _ (by kernel_rfl) AllP_nil

end Go.Ev

namespace Go.Ev
open Go Go.RowKit Go.Proofs

theorem ftss_t1 (fy : Bool) (ry : List (List DV)) (fz : Bool) (rz : List (List DV)) (es : List (Value × Bool × List DV)) (n : Int) (h1 : rightSpec [PV.one (DV.sl 7 fy ry)] = some [PV.one (db true)]) (h2 : metSpec [PV.one (DV.sl 7 fy ry)] = some [PV.one (DV.mp es)]) (h3 : fitsSpec [PV.one (DV.mp es), PV.one (DV.sl 2 fz rz)] = some [PV.one (di n)]) :
    Ev C3 noO (Task.call 21 [AV.d (DV.sl 7 fy ry), AV.d (DV.sl 2 fz rz)] { }) (.val (vi n) { }) :=
  sym_ev 60 _ [(site 21 6, Dec.prim [pbool true]), (site 21 9, Dec.prim [PV.one (DV.mp es)]), (site 21 11, Dec.prim [pint n])] _ [] _ (by kernel_rfl) (AllP_cons h1 (AllP_cons h2 (AllP_cons h3 AllP_nil)))
theorem ftss_t2 (fy : Bool) (ry : List (List DV)) (fz : Bool) (rz : List (List DV)) (es : List (Value × Bool × List DV)) (n : Int) (h1 : rightSpec [PV.one (DV.sl 7 fy ry)] = some [PV.one (db false)]) :
    Ev C3 noO (Task.call 21 [AV.d (DV.sl 7 fy ry), AV.d (DV.sl 2 fz rz)] { }) (.val (vi 4) { }) :=
  sym_ev 60 _ [(site 21 6, Dec.prim [pbool false])] _ [] _ (by kernel_rfl) (AllP_cons h1 AllP_nil)
theorem ftsn_t1 (fy : Bool) (ry : List (List DV)) (es : List (Value × Bool × List DV)) (n : Int) (h1 : rightSpec [PV.one (DV.sl 7 fy ry)] = some [PV.one (db true)]) (h2 : metSpec [PV.one (DV.sl 7 fy ry)] = some [PV.one (DV.mp es)]) (h3 : fitsSpec [PV.one (DV.mp es), PV.one (DV.v (Value.slice none 0 0))] = some [PV.one (di n)]) :
    Ev C3 noO (Task.call 21 [AV.d (DV.sl 7 fy ry), AV.d (DV.v (Value.slice none 0 0))] { }) (.val (vi n) { }) :=
  sym_ev 60 _ [(site 21 6, Dec.prim [pbool true]), (site 21 9, Dec.prim [PV.one (DV.mp es)]), (site 21 11, Dec.prim [pint n])] _ [] _ (by kernel_rfl) (AllP_cons h1 (AllP_cons h2 (AllP_cons h3 AllP_nil)))
theorem ftsn_t2 (fy : Bool) (ry : List (List DV)) (es : List (Value × Bool × List DV)) (n : Int) (h1 : rightSpec [PV.one (DV.sl 7 fy ry)] = some [PV.one (db false)]) :
    Ev C3 noO (Task.call 21 [AV.d (DV.sl 7 fy ry), AV.d (DV.v (Value.slice none 0 0))] { }) (.val (vi 4) { }) :=
  sym_ev 60 _ [(site 21 6, Dec.prim [pbool false])] _ [] _ (by kernel_rfl) (AllP_cons h1 AllP_nil)
theorem ftns_ (fz : Bool) (rz : List (List DV)) (es : List (Value × Bool × List DV)) (n : Int) (h1 : fitsSpec [PV.one (DV.mp []), PV.one (DV.sl 2 fz rz)] = some [PV.one (di n)]) :
    Ev C3 noO (Task.call 21 [AV.d (DV.v (Value.slice none 0 0)), AV.d (DV.sl 2 fz rz)] { }) (.val (vi n) { }) :=
  sym_ev 60 _ [(site 21 11, Dec.prim [pint n])] _ [] _ (by kernel_rfl) (AllP_cons h1 AllP_nil)
theorem ftnn_ (es : List (Value × Bool × List DV)) (n : Int) :
    Ev C3 noO (Task.call 21 [AV.d (DV.v (Value.slice none 0 0)), AV.d (DV.v (Value.slice none 0 0))] { }) (.val (vi 0) { }) :=
  sym_ev 60 _ [] _ [] _ (by kernel_rfl) AllP_nil

end Go.Ev

namespace Go.Ev
open Go Go.RowKit Go.Proofs

theorem evtsOf_sl (f : Bool) (l : List Evt) : evtsOf (.one (.sl 7 f (evRows l))) = some l := by simp [evtsOf, sliceOf, evRows, allSome_map evtI_row]
theorem callsOf_sl (f : Bool) (l : List (Int × Int)) : callsOf (.one (.sl 2 f (rowsP l))) = some l := by simp [callsOf, sliceOf, rowsP, allSome_map rowI_P]
theorem right_at {f : Bool} {l : List Evt} {b : Bool} (hb : l.length < 2 ^ 40) (h : rightB l = b) : rightSpec [.one (.sl 7 f (evRows l))] = some [.one (db b)] := by
  simp only [rightSpec, evtsOf_sl, hb, if_true, h]; rfl
theorem refRight_at {f : Bool} {l : List Evt} {b : Bool} (hb : l.length < 2 ^ 40) (h : refRightB l = b) : refRightSpec [.one (.sl 7 f (evRows l))] = some [.one (db b)] := by
  simp only [refRightSpec, evtsOf_sl, hb, if_true, h]; rfl
theorem met_at {f : Bool} {l : List Evt} (hb : l.length < 2 ^ 40) : metSpec [.one (.sl 7 f (evRows l))] = some [.one (.mp ((metL 0 l []).map entA))] := by
  simp only [metSpec, evtsOf_sl, hb, if_true]
theorem place_at {f : Bool} {l : List Evt} (c : Int × Int) (ret : Bool) (hb : l.length < 2 ^ 40) : placeSpec [.one (.sl 7 f (evRows l)), .agg [di c.1, di c.2], .one (db ret)] = some [.one (di (placeI c ret l))] := by
  have : pairOf (.agg [di c.1, di c.2]) = some c := rfl
  simp only [placeSpec, db, evtsOf_sl, this, hb, if_true]; rfl
theorem fits_at {p : PV} {order : List (Int × Int)} (m : MapE) (hp : callsOf p = some order) (hb : order.length < 2 ^ 40) : fitsSpec [.one (.mp (m.map entA)), p] = some [.one (di (fitsI m order))] := by
  have : allSome entI (m.map entA) = some m := allSome_map entI_entA m
  simp only [fitsSpec, this, hp, hb, if_true]; rfl

/-! ### Spans -/
def spansL (m : MapE) : Nat → List Evt → List S4
  | _, [] => []
  | i, e :: l => if e.re then spansL m (i + 1) l else (e.th, e.ca, (i : Int), ((getKV (e.th, e.ca) m).getD (0, 0)).2) :: spansL m (i + 1) l
def spansI (l : List Evt) : List S4 := if rightB l then spansL (metL 0 l []) 0 l else []
def sbHd (y : DV) (n i : Int) (m : MapE) (out : List (List DV)) (g : Nat) : St := { σ := slots 40 [(2, .st 4 out (site 17 37) g), (3, .d (.mp (m.map entA))), (11, .d y), (12, vi n), (13, vi i)], h := { toks := [(site 17 37, g)] } }
def saHd (y : DV) (n i : Int) (m : MapE) : St := { σ := slots 40 [(2, .d (.v (.slice none 0 0))), (3, .d (.mp (m.map entA))), (11, .d y), (12, vi n), (13, vi i)], h := {} }
def sbOut (out : List (List DV)) (g : Nat) : St := { σ := slots 40 [(2, .st 4 out (site 17 37) g)], h := { toks := [(site 17 37, g)] } }
def saOut : St := { σ := slots 40 [(2, .d (.v (.slice none 0 0)))], h := {} }
theorem sb_loop (full : Bool) (m : MapE) (all : List Evt) (hb : all.length < 2 ^ 40) : ∀ (rest pre : List Evt) (out : List (List DV)) (g : Nat), pre ++ rest = all → out.length ≤ pre.length →
    ∃ g', Ev C3 noO (.code 17 false (loopOf Try.prog 17 0) (sbHd (.sl 7 full (evRows all)) (all.length : Nat) (pre.length : Nat) m out g)) (.code (.exit 0) (sbOut (out ++ rowsS (spansL m pre.length rest)) g'))
  | [], pre, out, g, h, ho => ⟨g, by
    have e : out ++ rowsS (spansL m pre.length []) = out := by simp [spansL, rowsS]
    rw [e]
    exact sb_n full (evRows all) _ _ (m.map entA) out g (dge (by subst h; simp))⟩
  | e :: rest, pre, out, g, h, ho => by
    have hlt := pre_lt h
    have hrow := row_at (g := Evt.row) h
    have ih := fun out g ho => sb_loop full m all hb rest (pre ++ [e]) out g (pre_snoc h) ho
    simp only [len_snoc] at ih
    have hlk := look59 (C := C3) rfl (e.th, e.ca) m
    unfold spansL
    cases hk : e.re with
    | true =>
      obtain ⟨g', ih⟩ := ih out g (by omega)
      simp only [if_true]
      exact ⟨g', sb_yyL full _ _ _ (m.map entA) out g e _ _ _ (dlt hlt) hrow hk (wrap_succ (by omega)) ih⟩
    | false =>
      obtain ⟨g', ih⟩ := ih (out ++ [rowS (e.th, e.ca, (pre.length : Int), ((getKV (e.th, e.ca) m).getD (0, 0)).2)]) (g + 1 + 1) (by simp; omega)
      refine ⟨g', ?_⟩
      simp only [Bool.false_eq_true, if_false]
      have e2 : ∀ s t, out ++ rowsS (s :: t) = (out ++ [rowS s]) ++ rowsS t := by intro s t; simp [rowsS]
      rw [e2]
      exact sb_ynL full _ _ _ (m.map entA) out g e _ _ _ _ (dlt hlt) hrow hk hlk ⟨rfl, rfl, by unfold fitsP; omega⟩ (wrap_succ (by omega)) ih
theorem sa_loop (full : Bool) (m : MapE) (all : List Evt) (hb : all.length < 2 ^ 40) : ∀ (rest pre : List Evt), pre ++ rest = all →
    (spansL m pre.length rest = [] ∧ Ev C3 noO (.code 17 false (loopOf Try.prog 17 0) (saHd (.sl 7 full (evRows all)) (all.length : Nat) (pre.length : Nat) m)) (.code (.exit 0) saOut)) ∨
    (spansL m pre.length rest ≠ [] ∧ ∃ g', Ev C3 noO (.code 17 false (loopOf Try.prog 17 0) (saHd (.sl 7 full (evRows all)) (all.length : Nat) (pre.length : Nat) m)) (.code (.exit 0) (sbOut (rowsS (spansL m pre.length rest)) g')))
  | [], pre, h => .inl ⟨rfl, sa_n full (evRows all) _ _ (m.map entA) (dge (by subst h; simp))⟩
  | e :: rest, pre, h => by
    have hlt := pre_lt h
    have hrow := row_at (g := Evt.row) h
    have ih := sa_loop full m all hb rest (pre ++ [e]) (pre_snoc h)
    simp only [len_snoc] at ih
    have hlk := look59 (C := C3) rfl (e.th, e.ca) m
    unfold spansL
    cases hk : e.re with
    | true =>
      simp only [if_true]
      rcases ih with ⟨h1, h2⟩ | ⟨h1, g', h2⟩
      · exact .inl ⟨h1, sa_yyL full _ _ _ (m.map entA) e _ _ _ (dlt hlt) hrow hk (wrap_succ (by omega)) h2⟩
      · exact .inr ⟨h1, g', sa_yyL full _ _ _ (m.map entA) e _ _ _ (dlt hlt) hrow hk (wrap_succ (by omega)) h2⟩
    | false =>
      simp only [Bool.false_eq_true, if_false]
      right
      refine ⟨by simp, ?_⟩
      obtain ⟨g', h2⟩ := sb_loop full m all hb rest (pre ++ [e]) [rowS (e.th, e.ca, (pre.length : Int), ((getKV (e.th, e.ca) m).getD (0, 0)).2)] 1 (pre_snoc h) (by simp)
      simp only [len_snoc] at h2
      exact ⟨g', sa_ynL full _ _ _ (m.map entA) e _ _ _ _ (dlt hlt) hrow hk hlk (wrap_succ (by omega)) h2⟩

theorem made_ne {sz : Nat} {l : List S4} (h : l ≠ []) : madePV sz (rowsS l) = .one (.sl sz false (rowsS l)) := by
  unfold madePV
  rw [if_neg (by simpa [rowsS] using h)]
def spansSpecP : Spec
  | [p] => match evtsOf p with
    | some l => if l.length < 2 ^ 40 then some [madePV 4 (rowsS (spansI l))] else none
    | none => none
  | _ => none
theorem pspans_sat : Sat C3 17 spansSpecP := by
  refine sat_of_ev (O := noO) hP3 (fun _ _ h => h.elim) hm0 fun ps rs hs => ?_
  unfold spansSpecP at hs
  split at hs
  · split at hs
    · rename_i p l hl
      split at hs
      · rename_i hb
        simp only [Option.some.injEq] at hs
        subst hs
        rcases evtsOf_cases hl with ⟨rfl, rfl⟩ | ⟨full, rfl⟩
        · exact ⟨_, _, _, saN_ (saA_ []), rfl⟩
        · unfold spansI
          cases hr : rightB l with
          | false => exact ⟨_, _, _, sac_t2 full (evRows l) [] [] 0 (right_at hb hr), rfl⟩
          | true =>
            simp only [if_true]
            rcases sa_loop full (metL 0 l []) l hb l [] rfl with ⟨h1, h2⟩ | ⟨h1, g', h2⟩
            · simp only [List.length_nil] at h1
              rw [h1]
              exact ⟨_, _, _, sac_t1l1 full (evRows l) ((metL 0 l []).map entA) [] 0 ((l.length : Nat) : Int) (right_at hb hr) (met_at hb) (by simp [evRows]) h2, rfl⟩
            · simp only [List.length_nil] at h1 h2
              rw [made_ne h1]
              exact ⟨_, _, _, sac_t1l2 full (evRows l) ((metL 0 l []).map entA) _ g' ((l.length : Nat) : Int) (right_at hb hr) (met_at hb) (by simp [evRows]) h2, rfl⟩
      · cases hs
    · cases hs
  · cases hs

/-! ### the document's Spans -/
def refSpansL (all : List Evt) : Nat → List Evt → List S4
  | _, [] => []
  | i, e :: l => if e.re then refSpansL all (i + 1) l else (e.th, e.ca, (i : Int), placeI (e.th, e.ca) true all) :: refSpansL all (i + 1) l
def refSpansI (l : List Evt) : List S4 := if refRightB l then refSpansL l 0 l else []
def tbHd (y : DV) (i : Int) (out : List (List DV)) (g : Nat) : St := { σ := slots 49 [(0, .d y), (3, .st 4 out (site 18 47) g), (4, vi i)], h := { toks := [(site 18 47, g)] } }
def taHd (y : DV) (i : Int) : St := { σ := slots 49 [(0, .d y), (3, .d (.v (.slice none 0 0))), (4, vi i)], h := {} }
def tbOut (out : List (List DV)) (g : Nat) : St := { σ := slots 49 [(3, .st 4 out (site 18 47) g)], h := { toks := [(site 18 47, g)] } }
def taOut : St := { σ := slots 49 [(3, .d (.v (.slice none 0 0)))], h := {} }
theorem tb_loop (full : Bool) (all : List Evt) (hb : all.length < 2 ^ 40) : ∀ (rest pre : List Evt) (out : List (List DV)) (g : Nat), pre ++ rest = all → out.length ≤ pre.length →
    ∃ g', Ev C3 noO (.code 18 false (loopOf Try.prog 18 0) (tbHd (.sl 7 full (evRows all)) (pre.length : Nat) out g)) (.code (.exit 0) (tbOut (out ++ rowsS (refSpansL all pre.length rest)) g'))
  | [], pre, out, g, h, ho => ⟨g, by
    have e : out ++ rowsS (refSpansL all pre.length []) = out := by simp [refSpansL, rowsS]
    rw [e]
    exact tb_n full (evRows all) _ out g (all.length : Nat) (by simp [evRows]) (dge (by subst h; simp))⟩
  | e :: rest, pre, out, g, h, ho => by
    have hlt := pre_lt h
    have hrow := row_at (g := Evt.row) h
    have hl : (((evRows all).length : Nat) : Int) = (all.length : Nat) := by simp [evRows]
    have ih := fun out g ho => tb_loop full all hb rest (pre ++ [e]) out g (pre_snoc h) ho
    simp only [len_snoc] at ih
    unfold refSpansL
    cases hk : e.re with
    | true =>
      obtain ⟨g', ih⟩ := ih out g (by omega)
      simp only [if_true]
      exact ⟨g', tb_yyL full _ _ out g _ e _ _ _ hl (dlt hlt) hrow hk (wrap_succ (by omega)) ih⟩
    | false =>
      obtain ⟨g', ih⟩ := ih (out ++ [rowS (e.th, e.ca, (pre.length : Int), placeI (e.th, e.ca) true all)]) (g + 1 + 1) (by simp; omega)
      refine ⟨g', ?_⟩
      simp only [Bool.false_eq_true, if_false]
      have e2 : ∀ s t, out ++ rowsS (s :: t) = (out ++ [rowS s]) ++ rowsS t := by intro s t; simp [rowsS]
      rw [e2]
      exact tb_ynL full _ _ out g _ e e e e e _ _ _ _ hl (dlt hlt) hrow hk hrow hrow hrow hrow (place_at (e.th, e.ca) true hb) ⟨rfl, rfl, by unfold fitsP; omega⟩ (wrap_succ (by omega)) ih
theorem ta_loop (full : Bool) (all : List Evt) (hb : all.length < 2 ^ 40) : ∀ (rest pre : List Evt), pre ++ rest = all →
    (refSpansL all pre.length rest = [] ∧ Ev C3 noO (.code 18 false (loopOf Try.prog 18 0) (taHd (.sl 7 full (evRows all)) (pre.length : Nat))) (.code (.exit 0) taOut)) ∨
    (refSpansL all pre.length rest ≠ [] ∧ ∃ g', Ev C3 noO (.code 18 false (loopOf Try.prog 18 0) (taHd (.sl 7 full (evRows all)) (pre.length : Nat))) (.code (.exit 0) (tbOut (rowsS (refSpansL all pre.length rest)) g')))
  | [], pre, h => .inl ⟨rfl, ta_n full (evRows all) _ (all.length : Nat) (by simp [evRows]) (dge (by subst h; simp))⟩
  | e :: rest, pre, h => by
    have hlt := pre_lt h
    have hrow := row_at (g := Evt.row) h
    have hl : (((evRows all).length : Nat) : Int) = (all.length : Nat) := by simp [evRows]
    have ih := ta_loop full all hb rest (pre ++ [e]) (pre_snoc h)
    simp only [len_snoc] at ih
    unfold refSpansL
    cases hk : e.re with
    | true =>
      simp only [if_true]
      rcases ih with ⟨h1, h2⟩ | ⟨h1, g', h2⟩
      · exact .inl ⟨h1, ta_yyL full _ _ _ e _ _ _ hl (dlt hlt) hrow hk (wrap_succ (by omega)) h2⟩
      · exact .inr ⟨h1, g', ta_yyL full _ _ _ e _ _ _ hl (dlt hlt) hrow hk (wrap_succ (by omega)) h2⟩
    | false =>
      simp only [Bool.false_eq_true, if_false]
      right
      refine ⟨by simp, ?_⟩
      obtain ⟨g', h2⟩ := tb_loop full all hb rest (pre ++ [e]) [rowS (e.th, e.ca, (pre.length : Int), placeI (e.th, e.ca) true all)] 1 (pre_snoc h) (by simp)
      simp only [len_snoc] at h2
      exact ⟨g', ta_ynL full _ _ _ e e e e e _ _ _ _ hl (dlt hlt) hrow hk hrow hrow hrow hrow (place_at (e.th, e.ca) true hb) (wrap_succ (by omega)) h2⟩
def refSpansSpec : Spec
  | [p] => match evtsOf p with
    | some l => if l.length < 2 ^ 40 then some [madePV 4 (rowsS (refSpansI l))] else none
    | none => none
  | _ => none
theorem refSpans_sat : Sat C3 18 refSpansSpec := by
  refine sat_of_ev (O := noO) hP3 (fun _ _ h => h.elim) hm0 fun ps rs hs => ?_
  unfold refSpansSpec at hs
  split at hs
  · split at hs
    · rename_i p l hl
      split at hs
      · rename_i hb
        simp only [Option.some.injEq] at hs
        subst hs
        rcases evtsOf_cases hl with ⟨rfl, rfl⟩ | ⟨full, rfl⟩
        · exact ⟨_, _, _, taN_ taA_, rfl⟩
        · unfold refSpansI
          cases hr : refRightB l with
          | false => exact ⟨_, _, _, tac_t2 full (evRows l) [] 0 (refRight_at hb hr), rfl⟩
          | true =>
            simp only [if_true]
            rcases ta_loop full l hb l [] rfl with ⟨h1, h2⟩ | ⟨h1, g', h2⟩
            · simp only [List.length_nil] at h1
              rw [h1]
              exact ⟨_, _, _, tac_t1l1 full (evRows l) [] 0 (refRight_at hb hr) h2, rfl⟩
            · simp only [List.length_nil] at h1 h2
              rw [made_ne h1]
              exact ⟨_, _, _, tac_t1l2 full (evRows l) _ g' (refRight_at hb hr) h2, rfl⟩
      · cases hs
    · cases hs
  · cases hs

/-! ### Before -/
def beforeB (l : List Evt) (a b : Int × Int) : Bool := rightB l && ((getKV a (metL 0 l [])).isSome && (getKV b (metL 0 l [])).isSome && aheadI ((getKV a (metL 0 l [])).getD (0, 0)) ((getKV b (metL 0 l [])).getD (0, 0)))
def beforeSpec : Spec
  | [p, q, r] => match evtsOf p, pairOf q, pairOf r with
    | some l, some a, some b => if l.length < 2 ^ 40 then some [pbool (beforeB l a b)] else none
    | _, _, _ => none
  | _ => none
theorem ahead_at (u v : Int × Int) : aheadSpec [.agg [di u.1, di u.2], .agg [di v.1, di v.2]] = some [.one (db (aheadI u v))] := rfl
theorem before_sat : Sat C3 19 beforeSpec := by
  refine sat_of_ev (O := noO) hP3 (fun _ _ h => h.elim) hm0 fun ps rs hs => ?_
  unfold beforeSpec at hs
  split at hs
  · split at hs
    · rename_i p q r l a b hl ha hc
      split at hs
      · rename_i hb
        simp only [Option.some.injEq] at hs
        subst hs
        rw [pairOf_eq ha, pairOf_eq hc]
        rcases evtsOf_cases hl with ⟨rfl, rfl⟩ | ⟨full, rfl⟩
        · exact ⟨_, _, _, bfn_ a b [] (0, 0) (0, 0) false, rfl⟩
        · unfold beforeB
          cases hr : rightB l with
          | false => exact ⟨_, _, _, bfs_t2 full (evRows l) a b [] (0, 0) (0, 0) false (right_at hb hr), rfl⟩
          | true =>
            have k1 := look59ok (C := C3) rfl a (metL 0 l [])
            have k2 := look59ok (C := C3) rfl b (metL 0 l [])
            cases e1 : (getKV a (metL 0 l [])).isSome with
            | false =>
              rw [e1] at k1
              cases e2 : (getKV b (metL 0 l [])).isSome with
              | false => rw [e2] at k2; exact ⟨_, _, _, bfs_t1t2t2 full (evRows l) a b _ _ _ false (right_at hb hr) (met_at hb) k1 k2, rfl⟩
              | true => rw [e2] at k2; exact ⟨_, _, _, bfs_t1t2t1 full (evRows l) a b _ _ _ false (right_at hb hr) (met_at hb) k1 k2, rfl⟩
            | true =>
              rw [e1] at k1
              cases e2 : (getKV b (metL 0 l [])).isSome with
              | false => rw [e2] at k2; exact ⟨_, _, _, bfs_t1t1t2 full (evRows l) a b _ _ _ false (right_at hb hr) (met_at hb) k1 k2, rfl⟩
              | true =>
                rw [e2] at k2
                have k3 := ahead_at ((getKV a (metL 0 l [])).getD (0, 0)) ((getKV b (metL 0 l [])).getD (0, 0))
                cases e3 : aheadI ((getKV a (metL 0 l [])).getD (0, 0)) ((getKV b (metL 0 l [])).getD (0, 0)) with
                | true => rw [e3] at k3; exact ⟨_, _, _, bfs_t1t1t1y full (evRows l) a b _ _ _ true (right_at hb hr) (met_at hb) k1 k2 k3 rfl, rfl⟩
                | false => rw [e3] at k3; exact ⟨_, _, _, bfs_t1t1t1n full (evRows l) a b _ _ _ false (right_at hb hr) (met_at hb) k1 k2 k3 rfl, rfl⟩
      · cases hs
    · cases hs
  · cases hs

/-! ### the document's Before -/
def refBeforeB (l : List Evt) (a b : Int × Int) : Bool := refRightB l && (decide (placeI a true l ≥ 0) && decide (placeI b false l > placeI a true l))
def refBeforeSpec : Spec
  | [p, q, r] => match evtsOf p, pairOf q, pairOf r with
    | some l, some a, some b => if l.length < 2 ^ 40 then some [pbool (refBeforeB l a b)] else none
    | _, _, _ => none
  | _ => none
theorem refBefore_sat : Sat C3 20 refBeforeSpec := by
  refine sat_of_ev (O := noO) hP3 (fun _ _ h => h.elim) hm0 fun ps rs hs => ?_
  unfold refBeforeSpec at hs
  split at hs
  · split at hs
    · rename_i p q r l a b hl ha hc
      split at hs
      · rename_i hb
        simp only [Option.some.injEq] at hs
        subst hs
        rw [pairOf_eq ha, pairOf_eq hc]
        rcases evtsOf_cases hl with ⟨rfl, rfl⟩ | ⟨full, rfl⟩
        · exact ⟨_, _, _, rbfn_ a b 0 0, rfl⟩
        · unfold refBeforeB
          cases hr : refRightB l with
          | false => exact ⟨_, _, _, rbfs_t2 full (evRows l) a b 0 0 (refRight_at hb hr), rfl⟩
          | true =>
            have k1 := place_at (f := full) a true hb
            have k2 := place_at (f := full) b false hb
            cases e1 : decide (placeI a true l ≥ 0) with
            | false => exact ⟨_, _, _, rbfs_t1n full (evRows l) a b _ _ (refRight_at hb hr) k1 k2 e1, rfl⟩
            | true =>
              cases e2 : decide (placeI b false l > placeI a true l) with
              | false => exact ⟨_, _, _, rbfs_t1yn full (evRows l) a b _ _ (refRight_at hb hr) k1 k2 e1 e2, rfl⟩
              | true => exact ⟨_, _, _, rbfs_t1yy full (evRows l) a b _ _ (refRight_at hb hr) k1 k2 e1 e2, rfl⟩
      · cases hs
    · cases hs
  · cases hs

/-! ### Fits -/
def fitsB (l : List Evt) (order : List (Int × Int)) : Int := if rightB l then fitsI (metL 0 l []) order else 4
def pfitsSpec : Spec
  | [p, q] => match evtsOf p, callsOf q with
    | some l, some order => if l.length < 2 ^ 40 ∧ order.length < 2 ^ 40 then some [pint (fitsB l order)] else none
    | _, _ => none
  | _ => none
theorem pfits_sat : Sat C3 21 pfitsSpec := by
  refine sat_of_ev (O := noO) hP3 (fun _ _ h => h.elim) hm0 fun ps rs hs => ?_
  unfold pfitsSpec at hs
  split at hs
  · split at hs
    · rename_i p q l order hl ho
      split at hs
      · rename_i hb
        obtain ⟨hb, hb2⟩ := hb
        simp only [Option.some.injEq] at hs
        subst hs
        have kf := fits_at (metL 0 l []) ho hb2
        rcases evtsOf_cases hl with ⟨rfl, rfl⟩ | ⟨f1, rfl⟩
        · rcases callsOf_cases ho with ⟨rfl, rfl⟩ | ⟨f2, rfl⟩
          · exact ⟨_, _, _, ftnn_ [] 0, rfl⟩
          · exact ⟨_, _, _, ftns_ f2 _ [] (fitsB [] order) kf, rfl⟩
        · unfold fitsB
          rcases callsOf_cases ho with ⟨rfl, rfl⟩ | ⟨f2, rfl⟩
          · cases hr : rightB l with
            | false => exact ⟨_, _, _, ftsn_t2 f1 (evRows l) [] 0 (right_at hb hr), rfl⟩
            | true => exact ⟨_, _, _, ftsn_t1 f1 (evRows l) _ _ (right_at hb hr) (met_at hb) kf, rfl⟩
          · cases hr : rightB l with
            | false => exact ⟨_, _, _, ftss_t2 f1 (evRows l) f2 _ [] 0 (right_at hb hr), rfl⟩
            | true => exact ⟨_, _, _, ftss_t1 f1 (evRows l) f2 _ _ _ (right_at hb hr) (met_at hb) kf, rfl⟩
      · cases hs
    · cases hs
  · cases hs

end Go.Ev

namespace Go.Ev
open Go Go.RowKit Go.Proofs

def L4 : List (FuncId × Spec) := [(11, rightSpec), (14, ofSpec), (17, spansSpecP), (19, beforeSpec), (21, pfitsSpec), (12, refRightSpec), (15, refOfSpec), (18, refSpansSpec), (20, refBeforeSpec), (13, sameSpec), (16, spansSpec), (32, placeSpec), (35, inSpec),
  (31, metSpec), (33, aheadSpec), (34, fitsSpec), (37, cmpSpec), (38, orSpec), (39, compareSpec), (49, cloneSpec), (50, containsSpec), (53, clipSpec)]
noncomputable def C4 : Ctx := { P := Try.prog, prim := primL L4, wr := fun f d => f == 24 && d == 41, nt := fun f d => f == 48 && d == 39 }
theorem hP4 : PrimOK C4 := by
  refine .ofList (l := L4) rfl fun x hx => ?_
  simp only [L4, List.mem_cons, List.not_mem_nil, or_false] at hx
  rcases hx with rfl | rfl | rfl | rfl | rfl | rfl | rfl | rfl | rfl | rfl | rfl | rfl | rfl | rfl | rfl | rfl | rfl | rfl | rfl | rfl | rfl | rfl
  · exact ⟨right_sat.ctx rfl rfl, by kernel_rfl⟩
  · exact ⟨of_sat.ctx rfl rfl, by kernel_rfl⟩
  · exact ⟨pspans_sat.ctx rfl rfl, by kernel_rfl⟩
  · exact ⟨before_sat.ctx rfl rfl, by kernel_rfl⟩
  · exact ⟨pfits_sat.ctx rfl rfl, by kernel_rfl⟩
  · exact ⟨refRight_sat.ctx rfl rfl, by kernel_rfl⟩
  · exact ⟨refOf_sat.ctx rfl rfl, by kernel_rfl⟩
  · exact ⟨refSpans_sat.ctx rfl rfl, by kernel_rfl⟩
  · exact ⟨refBefore_sat.ctx rfl rfl, by kernel_rfl⟩
  · exact ⟨same_sat.ctx rfl rfl, by kernel_rfl⟩
  · exact ⟨spans_sat.ctx rfl rfl, by kernel_rfl⟩
  · exact ⟨place_sat.ctx rfl rfl, by kernel_rfl⟩
  · exact ⟨in_sat.ctx rfl rfl, by kernel_rfl⟩
  · exact ⟨met_sat.ctx rfl rfl, by kernel_rfl⟩
  · exact ⟨ahead_sat.ctx rfl rfl, by kernel_rfl⟩
  · exact ⟨fits_sat.ctx rfl rfl, by kernel_rfl⟩
  · exact ⟨cmp_sat.ctx rfl rfl, by kernel_rfl⟩
  · exact ⟨or_sat.ctx rfl rfl, by kernel_rfl⟩
  · exact ⟨compare_sat.ctx rfl rfl, by kernel_rfl⟩
  · exact ⟨clone_sat.ctx rfl rfl, by kernel_rfl⟩
  · exact ⟨contains_sat.ctx rfl rfl, by kernel_rfl⟩
  · exact ⟨clip_sat.ctx rfl rfl, by kernel_rfl⟩

end Go.Ev

namespace Go.Ev
open Go Go.RowKit Go.Proofs

def isTrueRes : Option Res → Bool
  | some (.val (.d (.v (.bool true))) _) => true
  | _ => false
theorem isTrueRes_eq {r : Option Res} (h : isTrueRes r = true) : ∃ h1, r = some (.val (vb true) h1) := by
  unfold isTrueRes at h
  split at h
  · exact ⟨_, rfl⟩
  · cases h
theorem awake_run : isTrueRes (run C4 2000 (.call 10 [] {})) = true := by kernel_rfl
def awakeSpec : Spec
  | [] => some [pbool true]
  | _ => none
theorem awake_sat : Sat C4 10 awakeSpec := by
  refine sat_of_run hP4 hm0 fun ps rs hs => ?_
  unfold awakeSpec at hs
  split at hs
  · simp only [Option.some.injEq] at hs
    subst hs
    obtain ⟨h1, h⟩ := isTrueRes_eq awake_run
    exact ⟨2000, _, _, _, h, rfl⟩
  · cases hs

def L5 : List (FuncId × Spec) := (10, awakeSpec) :: L4
noncomputable def C5 : Ctx := { P := Try.prog, prim := primL L5 }
theorem hP5 : PrimOK C5 := by
  refine .ofList (l := L5) rfl fun x hx => ?_
  rcases List.mem_cons.1 hx with rfl | hx
  · exact ⟨awake_sat.ctx rfl rfl, by kernel_rfl⟩
  · have key : ∀ (l : List (FuncId × Spec)), (l.map (·.1)).Nodup → ∀ x ∈ l, primL l x.1 = some x.2 := by
      intro l
      induction l with
      | nil => intro _ x hx; cases hx
      | cons y l ih =>
        intro hn x hx
        rw [List.map_cons, List.nodup_cons] at hn
        simp only [primL]
        rcases List.mem_cons.1 hx with rfl | hx
        · rw [if_pos rfl]
        · have hne : x.1 ≠ y.1 := fun e => hn.1 (by rw [← e]; exact List.mem_map.2 ⟨x, hx, rfl⟩)
          rw [if_neg hne]
          exact ih hn.2 x hx
    obtain ⟨h1, h2⟩ := hP4 x.1 x.2 (key L4 (by decide) x hx)
    refine ⟨h1.ctx rfl rfl, ?_⟩
    have : ∀ y ∈ L4, hasBody C5 y.1 = true := by
      have h3 : (L4.map (·.1)).all (hasBody C5) = true := by kernel_rfl
      intro y hy
      rw [List.all_eq_true] at h3
      exact h3 _ (List.mem_map.2 ⟨y, hy, rfl⟩)
    exact this x hx

end Go.Ev
