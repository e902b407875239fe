/- Whatever bytes it is given, the Go function turnspit/turnspitlaw20.PastBegins returns true, does not panic, and leaves its argument as it was. No conditions. -/
import Derived.Test.YtgpdnahmgacffaaMH
set_option linter.unusedVariables false
set_option linter.unusedSimpArgs false

namespace Go.Ev
open Go Go.RowKit Go.Proofs

theorem bg0n_yL (r : List (List DV)) (rs : List (List DV)) (i : Int) (a : S4) (i21 : Int) (i24 : Int) (x : X) (s : St) (h1 : ↑(List.length rs) = i21) (h2 : decide (i < i21) = true) (h3 : 0 ≤ i ∧ rs[Int.toNat i]? = some [di a.1, di a.snd.1, di a.snd.snd.1, di a.snd.snd.2]) (h4 : wr64 (i + 1) = i24) (h5 : Ev C8 noO (Task.code 7 false (loopOf Try.prog 7 0) { σ := slots 107 [(3, vb true), (4, AV.d (DV.sl 7 false r)), (5, AV.d (DV.sl 4 false rs)), (6, AV.st 2 [[di a.1, di a.snd.1]] 57376 1), (7, AV.d (DV.v (Value.slice none 0 0))), (8, AV.d (DV.v (Value.slice none 0 0))), (9, vi i24)], h := { toks := [(57376, 1)] } }) (Res.code x s)) :
    Ev C8 noO (Task.code 7 false (loopOf Try.prog 7 0) { σ := slots 107 [(3, vb true), (4, AV.d (DV.sl 7 false r)), (5, AV.d (DV.sl 4 false rs)), (6, AV.d (DV.v (Value.slice none 0 0))), (7, AV.d (DV.v (Value.slice none 0 0))), (8, AV.d (DV.v (Value.slice none 0 0))), (9, vi i)], h := { } }) (.code (x) s) :=
  sym_ev 60 _ [(site 7 21, Dec.int i21), (site 7 22, Dec.b true), (site 7 28, Dec.row (rowS a)), (site 7 24, Dec.int i24), (site 7 8001, Dec.loop [3, 4, 5, 6, 7, 8, 9] x s)] _ [] _ (by kernel_rfl) (AllP_cons h1 (AllP_cons h2 (AllP_cons h3 (AllP_cons h4 (AllP_cons h5 AllP_nil)))))
theorem bg0n_n (r : List (List DV)) (rs : List (List DV)) (i : Int) (a : S4) (i21 : Int) (h1 : ↑(List.length rs) = i21) (h2 : decide (i < i21) = false) :
    Ev C8 noO (Task.code 7 false (loopOf Try.prog 7 0) { σ := slots 107 [(3, vb true), (4, AV.d (DV.sl 7 false r)), (5, AV.d (DV.sl 4 false rs)), (6, AV.d (DV.v (Value.slice none 0 0))), (7, AV.d (DV.v (Value.slice none 0 0))), (8, AV.d (DV.v (Value.slice none 0 0))), (9, vi i)], h := { } }) (.code (X.exit 0) { σ := slots 107 [(3, vb true), (4, AV.d (DV.sl 7 false r)), (5, AV.d (DV.sl 4 false rs)), (6, AV.d (DV.v (Value.slice none 0 0))), (7, AV.d (DV.v (Value.slice none 0 0))), (8, AV.d (DV.v (Value.slice none 0 0)))], h := { } }) :=
  symM_ev (n := 60) (sc := [(site 7 21, Dec.int i21), (site 7 22, Dec.b false)]) (keep := [3, 4, 5, 6, 7, 8]) (sc' := []) (by kernel_rfl) (AllP_cons h1 (AllP_cons h2 AllP_nil))
theorem bg0s_yL (r : List (List DV)) (rs : List (List DV)) (i : Int) (a : S4) (o1 : List (List DV)) (g1 : Nat) (i21 : Int) (i24 : Int) (x : X) (s : St) (h1 : ↑(List.length rs) = i21) (h2 : decide (i < i21) = true) (h3 : 0 ≤ i ∧ rs[Int.toNat i]? = some [di a.1, di a.snd.1, di a.snd.snd.1, di a.snd.snd.2]) (h4 : false = false ∧ g1 = g1 ∧ fitsP (List.length o1) 1 16) (h5 : wr64 (i + 1) = i24) (h6 : Ev C8 noO (Task.code 7 false (loopOf Try.prog 7 0) { σ := slots 107 [(3, vb true), (4, AV.d (DV.sl 7 false r)), (5, AV.d (DV.sl 4 false rs)), (6, AV.st 2 (o1 ++ [[di a.1, di a.snd.1]]) 57376 (g1 + 1 + 1)), (7, AV.d (DV.v (Value.slice none 0 0))), (8, AV.d (DV.v (Value.slice none 0 0))), (9, vi i24)], h := { toks := [(57376, g1 + 1 + 1)] } }) (Res.code x s)) :
    Ev C8 noO (Task.code 7 false (loopOf Try.prog 7 0) { σ := slots 107 [(3, vb true), (4, AV.d (DV.sl 7 false r)), (5, AV.d (DV.sl 4 false rs)), (6, AV.st 2 o1 (site 7 32) g1), (7, AV.d (DV.v (Value.slice none 0 0))), (8, AV.d (DV.v (Value.slice none 0 0))), (9, vi i)], h := { toks := [(site 7 32, g1)] } }) (.code (x) s) :=
  sym_ev 60 _ [(site 7 21, Dec.int i21), (site 7 22, Dec.b true), (site 7 28, Dec.row (rowS a)), (site 7 32, Dec.app false), (site 7 24, Dec.int i24), (site 7 8001, Dec.loop [3, 4, 5, 6, 7, 8, 9] x s)] _ [] _ (by kernel_rfl) (AllP_cons h1 (AllP_cons h2 (AllP_cons h3 (AllP_cons h4 (AllP_cons h5 (AllP_cons h6 AllP_nil))))))
theorem bg0s_n (r : List (List DV)) (rs : List (List DV)) (i : Int) (a : S4) (o1 : List (List DV)) (g1 : Nat) (i21 : Int) (h1 : ↑(List.length rs) = i21) (h2 : decide (i < i21) = false) :
    Ev C8 noO (Task.code 7 false (loopOf Try.prog 7 0) { σ := slots 107 [(3, vb true), (4, AV.d (DV.sl 7 false r)), (5, AV.d (DV.sl 4 false rs)), (6, AV.st 2 o1 (site 7 32) g1), (7, AV.d (DV.v (Value.slice none 0 0))), (8, AV.d (DV.v (Value.slice none 0 0))), (9, vi i)], h := { toks := [(site 7 32, g1)] } }) (.code (X.exit 0) { σ := slots 107 [(3, vb true), (4, AV.d (DV.sl 7 false r)), (5, AV.d (DV.sl 4 false rs)), (6, AV.st 2 o1 57376 g1), (7, AV.d (DV.v (Value.slice none 0 0))), (8, AV.d (DV.v (Value.slice none 0 0)))], h := { toks := [(57376, g1)] } }) :=
  symM_ev (n := 60) (sc := [(site 7 21, Dec.int i21), (site 7 22, Dec.b false)]) (keep := [3, 4, 5, 6, 7, 8]) (sc' := []) (by kernel_rfl) (AllP_cons h1 (AllP_cons h2 AllP_nil))

end Go.Ev

namespace Go.Ev
open Go Go.RowKit Go.Proofs

theorem bg1n_yyL (r : List (List DV)) (rs : List (List DV)) (i : Int) (o1 : List (List DV)) (g1 : Nat) (i35 : Int) (e : Evt) (e2 : Evt) (e3 : Evt) (i38 : Int) (x : X) (s : St) (h1 : ↑(List.length r) = i35) (h2 : decide (i < i35) = true) (h3 : 0 ≤ i ∧ r[Int.toNat i]? = some [di e.1, di e.2, db e.3, di e.an.1, di e.an.2, di e.an.3, di e.an.4]) (h4 : e.re = true) (h5 : 0 ≤ i ∧ r[Int.toNat i]? = some [di e2.1, di e2.2, db e2.3, di e2.an.1, di e2.an.2, di e2.an.3, di e2.an.4]) (h6 : 0 ≤ i ∧ r[Int.toNat i]? = some [di e3.1, di e3.2, db e3.3, di e3.an.1, di e3.an.2, di e3.an.3, di e3.an.4]) (h7 : wr64 (i + 1) = i38) (h8 : Ev C8 noO (Task.code 7 false (loopOf Try.prog 7 1) { σ := slots 107 [(3, vb true), (4, AV.d (DV.sl 7 false r)), (5, AV.d (DV.sl 4 false rs)), (6, AV.st 2 o1 57376 g1), (7, AV.st 2 [[di e2.1, di e3.2]] 57401 1), (8, AV.d (DV.v (Value.slice none 0 0))), (10, vi i38)], h := { toks := [(57376, g1), (57401, 1)] } }) (Res.code x s)) :
    Ev C8 noO (Task.code 7 false (loopOf Try.prog 7 1) { σ := slots 107 [(3, vb true), (4, AV.d (DV.sl 7 false r)), (5, AV.d (DV.sl 4 false rs)), (6, AV.st 2 o1 (site 7 32) g1), (7, AV.d (DV.v (Value.slice none 0 0))), (8, AV.d (DV.v (Value.slice none 0 0))), (10, vi i)], h := { toks := [(site 7 32, g1)] } }) (.code (x) s) :=
  sym_ev 60 _ [(site 7 35, Dec.int i35), (site 7 36, Dec.b true), (site 7 41, Dec.row (Evt.row e)), (site 7 43, Dec.b true), (site 7 47, Dec.row (Evt.row e2)), (site 7 52, Dec.row (Evt.row e3)), (site 7 38, Dec.int i38), (site 7 8001, Dec.loop [3, 4, 5, 6, 7, 8, 10] x s)] _ [] _ (by kernel_rfl) (AllP_cons h1 (AllP_cons h2 (AllP_cons h3 (AllP_cons h4 (AllP_cons h5 (AllP_cons h6 (AllP_cons h7 (AllP_cons h8 AllP_nil))))))))
theorem bg1n_ynL (r : List (List DV)) (rs : List (List DV)) (i : Int) (o1 : List (List DV)) (g1 : Nat) (i35 : Int) (e : Evt) (i38 : Int) (x : X) (s : St) (h1 : ↑(List.length r) = i35) (h2 : decide (i < i35) = true) (h3 : 0 ≤ i ∧ r[Int.toNat i]? = some [di e.1, di e.2, db e.3, di e.an.1, di e.an.2, di e.an.3, di e.an.4]) (h4 : e.re = false) (h5 : wr64 (i + 1) = i38) (h6 : Ev C8 noO (Task.code 7 false (loopOf Try.prog 7 1) { σ := slots 107 [(3, vb true), (4, AV.d (DV.sl 7 false r)), (5, AV.d (DV.sl 4 false rs)), (6, AV.st 2 o1 57376 g1), (7, AV.d (DV.v (Value.slice none 0 0))), (8, AV.d (DV.v (Value.slice none 0 0))), (10, vi i38)], h := { toks := [(57376, g1)] } }) (Res.code x s)) :
    Ev C8 noO (Task.code 7 false (loopOf Try.prog 7 1) { σ := slots 107 [(3, vb true), (4, AV.d (DV.sl 7 false r)), (5, AV.d (DV.sl 4 false rs)), (6, AV.st 2 o1 (site 7 32) g1), (7, AV.d (DV.v (Value.slice none 0 0))), (8, AV.d (DV.v (Value.slice none 0 0))), (10, vi i)], h := { toks := [(site 7 32, g1)] } }) (.code (x) s) :=
  sym_ev 60 _ [(site 7 35, Dec.int i35), (site 7 36, Dec.b true), (site 7 41, Dec.row (Evt.row e)), (site 7 43, Dec.b false), (site 7 38, Dec.int i38), (site 7 8001, Dec.loop [3, 4, 5, 6, 7, 8, 10] x s)] _ [] _ (by kernel_rfl) (AllP_cons h1 (AllP_cons h2 (AllP_cons h3 (AllP_cons h4 (AllP_cons h5 (AllP_cons h6 AllP_nil))))))
theorem bg1n_n (r : List (List DV)) (rs : List (List DV)) (i : Int) (o1 : List (List DV)) (g1 : Nat) (i35 : Int) (h1 : ↑(List.length r) = i35) (h2 : decide (i < i35) = false) :
    Ev C8 noO (Task.code 7 false (loopOf Try.prog 7 1) { σ := slots 107 [(3, vb true), (4, AV.d (DV.sl 7 false r)), (5, AV.d (DV.sl 4 false rs)), (6, AV.st 2 o1 (site 7 32) g1), (7, AV.d (DV.v (Value.slice none 0 0))), (8, AV.d (DV.v (Value.slice none 0 0))), (10, vi i)], h := { toks := [(site 7 32, g1)] } }) (.code (X.exit 2) { σ := slots 107 [(3, vb true), (4, AV.d (DV.sl 7 false r)), (5, AV.d (DV.sl 4 false rs)), (6, AV.st 2 o1 57376 g1), (7, AV.d (DV.v (Value.slice none 0 0))), (8, AV.d (DV.v (Value.slice none 0 0)))], h := { toks := [(57376, g1)] } }) :=
  symM_ev (n := 60) (sc := [(site 7 35, Dec.int i35), (site 7 36, Dec.b false)]) (keep := [3, 4, 5, 6, 7, 8]) (sc' := []) (by kernel_rfl) (AllP_cons h1 (AllP_cons h2 AllP_nil))
theorem bg1s_yyL (r : List (List DV)) (rs : List (List DV)) (i : Int) (o1 : List (List DV)) (g1 : Nat) (o2 : List (List DV)) (g2 : Nat) (i35 : Int) (e : Evt) (e2 : Evt) (e3 : Evt) (i38 : Int) (x : X) (s : St) (h1 : ↑(List.length r) = i35) (h2 : decide (i < i35) = true) (h3 : 0 ≤ i ∧ r[Int.toNat i]? = some [di e.1, di e.2, db e.3, di e.an.1, di e.an.2, di e.an.3, di e.an.4]) (h4 : e.re = true) (h5 : 0 ≤ i ∧ r[Int.toNat i]? = some [di e2.1, di e2.2, db e2.3, di e2.an.1, di e2.an.2, di e2.an.3, di e2.an.4]) (h6 : 0 ≤ i ∧ r[Int.toNat i]? = some [di e3.1, di e3.2, db e3.3, di e3.an.1, di e3.an.2, di e3.an.3, di e3.an.4]) (h7 : false = false ∧ g2 = g2 ∧ fitsP (List.length o2) 1 16) (h8 : wr64 (i + 1) = i38) (h9 : Ev C8 noO (Task.code 7 false (loopOf Try.prog 7 1) { σ := slots 107 [(3, vb true), (4, AV.d (DV.sl 7 false r)), (5, AV.d (DV.sl 4 false rs)), (6, AV.st 2 o1 57376 g1), (7, AV.st 2 (o2 ++ [[di e2.1, di e3.2]]) 57401 (g2 + 1 + 1)), (8, AV.d (DV.v (Value.slice none 0 0))), (10, vi i38)], h := { toks := [(57376, g1), (57401, g2 + 1 + 1)] } }) (Res.code x s)) :
    Ev C8 noO (Task.code 7 false (loopOf Try.prog 7 1) { σ := slots 107 [(3, vb true), (4, AV.d (DV.sl 7 false r)), (5, AV.d (DV.sl 4 false rs)), (6, AV.st 2 o1 (site 7 32) g1), (7, AV.st 2 o2 (site 7 57) g2), (8, AV.d (DV.v (Value.slice none 0 0))), (10, vi i)], h := { toks := [(site 7 32, g1), (site 7 57, g2)] } }) (.code (x) s) :=
  sym_ev 60 _ [(site 7 35, Dec.int i35), (site 7 36, Dec.b true), (site 7 41, Dec.row (Evt.row e)), (site 7 43, Dec.b true), (site 7 47, Dec.row (Evt.row e2)), (site 7 52, Dec.row (Evt.row e3)), (site 7 57, Dec.app false), (site 7 38, Dec.int i38), (site 7 8001, Dec.loop [3, 4, 5, 6, 7, 8, 10] x s)] _ [] _ (by kernel_rfl) (AllP_cons h1 (AllP_cons h2 (AllP_cons h3 (AllP_cons h4 (AllP_cons h5 (AllP_cons h6 (AllP_cons h7 (AllP_cons h8 (AllP_cons h9 AllP_nil)))))))))
theorem bg1s_ynL (r : List (List DV)) (rs : List (List DV)) (i : Int) (o1 : List (List DV)) (g1 : Nat) (o2 : List (List DV)) (g2 : Nat) (i35 : Int) (e : Evt) (i38 : Int) (x : X) (s : St) (h1 : ↑(List.length r) = i35) (h2 : decide (i < i35) = true) (h3 : 0 ≤ i ∧ r[Int.toNat i]? = some [di e.1, di e.2, db e.3, di e.an.1, di e.an.2, di e.an.3, di e.an.4]) (h4 : e.re = false) (h5 : wr64 (i + 1) = i38) (h6 : Ev C8 noO (Task.code 7 false (loopOf Try.prog 7 1) { σ := slots 107 [(3, vb true), (4, AV.d (DV.sl 7 false r)), (5, AV.d (DV.sl 4 false rs)), (6, AV.st 2 o1 57376 g1), (7, AV.st 2 o2 57401 g2), (8, AV.d (DV.v (Value.slice none 0 0))), (10, vi i38)], h := { toks := [(57376, g1), (57401, g2)] } }) (Res.code x s)) :
    Ev C8 noO (Task.code 7 false (loopOf Try.prog 7 1) { σ := slots 107 [(3, vb true), (4, AV.d (DV.sl 7 false r)), (5, AV.d (DV.sl 4 false rs)), (6, AV.st 2 o1 (site 7 32) g1), (7, AV.st 2 o2 (site 7 57) g2), (8, AV.d (DV.v (Value.slice none 0 0))), (10, vi i)], h := { toks := [(site 7 32, g1), (site 7 57, g2)] } }) (.code (x) s) :=
  sym_ev 60 _ [(site 7 35, Dec.int i35), (site 7 36, Dec.b true), (site 7 41, Dec.row (Evt.row e)), (site 7 43, Dec.b false), (site 7 38, Dec.int i38), (site 7 8001, Dec.loop [3, 4, 5, 6, 7, 8, 10] x s)] _ [] _ (by kernel_rfl) (AllP_cons h1 (AllP_cons h2 (AllP_cons h3 (AllP_cons h4 (AllP_cons h5 (AllP_cons h6 AllP_nil))))))
theorem bg1s_n (r : List (List DV)) (rs : List (List DV)) (i : Int) (o1 : List (List DV)) (g1 : Nat) (o2 : List (List DV)) (g2 : Nat) (i35 : Int) (h1 : ↑(List.length r) = i35) (h2 : decide (i < i35) = false) :
    Ev C8 noO (Task.code 7 false (loopOf Try.prog 7 1) { σ := slots 107 [(3, vb true), (4, AV.d (DV.sl 7 false r)), (5, AV.d (DV.sl 4 false rs)), (6, AV.st 2 o1 (site 7 32) g1), (7, AV.st 2 o2 (site 7 57) g2), (8, AV.d (DV.v (Value.slice none 0 0))), (10, vi i)], h := { toks := [(site 7 32, g1), (site 7 57, g2)] } }) (.code (X.exit 2) { σ := slots 107 [(3, vb true), (4, AV.d (DV.sl 7 false r)), (5, AV.d (DV.sl 4 false rs)), (6, AV.st 2 o1 57376 g1), (7, AV.st 2 o2 57401 g2), (8, AV.d (DV.v (Value.slice none 0 0)))], h := { toks := [(57376, g1), (57401, g2)] } }) :=
  symM_ev (n := 60) (sc := [(site 7 35, Dec.int i35), (site 7 36, Dec.b false)]) (keep := [3, 4, 5, 6, 7, 8]) (sc' := []) (by kernel_rfl) (AllP_cons h1 (AllP_cons h2 AllP_nil))

end Go.Ev

namespace Go.Ev
open Go Go.RowKit Go.Proofs

theorem bg2nn_yyL (r : List (List DV)) (rs : List (List DV)) (i : Int) (o1 : List (List DV)) (g1 : Nat) (a : S4) (i63 : Int) (i66 : Int) (x : X) (s : St) (h1 : ↑(List.length rs) = i63) (h2 : decide (i < i63) = true) (h3 : 0 ≤ i ∧ rs[Int.toNat i]? = some [di a.1, di a.snd.1, di a.snd.snd.1, di a.snd.snd.2]) (h4 : decide (a.snd.2.snd < 0) = true) (h5 : 0 ≤ i ∧ rs[Int.toNat i]? = some [di a.1, di a.snd.1, di a.snd.snd.1, di a.snd.snd.2]) (h6 : wr64 (i + 1) = i66) (h7 : Ev C8 noO (Task.code 7 false (loopOf Try.prog 7 2) { σ := slots 107 [(3, vb true), (4, AV.d (DV.sl 7 false r)), (5, AV.d (DV.sl 4 false rs)), (6, AV.st 2 o1 57376 g1), (7, AV.d (DV.v (Value.slice none 0 0))), (8, AV.st 2 [[di a.1, di a.snd.1]] 57424 1), (11, vi i66)], h := { toks := [(57376, g1), (57424, 1)] } }) (Res.code x s)) :
    Ev C8 noO (Task.code 7 false (loopOf Try.prog 7 2) { σ := slots 107 [(3, vb true), (4, AV.d (DV.sl 7 false r)), (5, AV.d (DV.sl 4 false rs)), (6, AV.st 2 o1 (site 7 32) g1), (7, AV.d (DV.v (Value.slice none 0 0))), (8, AV.d (DV.v (Value.slice none 0 0))), (11, vi i)], h := { toks := [(site 7 32, g1)] } }) (.code (x) s) :=
  sym_ev 60 _ [(site 7 63, Dec.int i63), (site 7 64, Dec.b true), (site 7 69, Dec.row (rowS a)), (site 7 72, Dec.b true), (site 7 76, Dec.row (rowS a)), (site 7 66, Dec.int i66), (site 7 8001, Dec.loop [3, 4, 5, 6, 7, 8, 11] x s)] _ [] _ (by kernel_rfl) (AllP_cons h1 (AllP_cons h2 (AllP_cons h3 (AllP_cons h4 (AllP_cons h5 (AllP_cons h6 (AllP_cons h7 AllP_nil)))))))
theorem bg2nn_ynL (r : List (List DV)) (rs : List (List DV)) (i : Int) (o1 : List (List DV)) (g1 : Nat) (a : S4) (i63 : Int) (i66 : Int) (x : X) (s : St) (h1 : ↑(List.length rs) = i63) (h2 : decide (i < i63) = true) (h3 : 0 ≤ i ∧ rs[Int.toNat i]? = some [di a.1, di a.snd.1, di a.snd.snd.1, di a.snd.snd.2]) (h4 : decide (a.snd.2.snd < 0) = false) (h5 : wr64 (i + 1) = i66) (h6 : Ev C8 noO (Task.code 7 false (loopOf Try.prog 7 2) { σ := slots 107 [(3, vb true), (4, AV.d (DV.sl 7 false r)), (5, AV.d (DV.sl 4 false rs)), (6, AV.st 2 o1 57376 g1), (7, AV.d (DV.v (Value.slice none 0 0))), (8, AV.d (DV.v (Value.slice none 0 0))), (11, vi i66)], h := { toks := [(57376, g1)] } }) (Res.code x s)) :
    Ev C8 noO (Task.code 7 false (loopOf Try.prog 7 2) { σ := slots 107 [(3, vb true), (4, AV.d (DV.sl 7 false r)), (5, AV.d (DV.sl 4 false rs)), (6, AV.st 2 o1 (site 7 32) g1), (7, AV.d (DV.v (Value.slice none 0 0))), (8, AV.d (DV.v (Value.slice none 0 0))), (11, vi i)], h := { toks := [(site 7 32, g1)] } }) (.code (x) s) :=
  sym_ev 60 _ [(site 7 63, Dec.int i63), (site 7 64, Dec.b true), (site 7 69, Dec.row (rowS a)), (site 7 72, Dec.b false), (site 7 66, Dec.int i66), (site 7 8001, Dec.loop [3, 4, 5, 6, 7, 8, 11] x s)] _ [] _ (by kernel_rfl) (AllP_cons h1 (AllP_cons h2 (AllP_cons h3 (AllP_cons h4 (AllP_cons h5 (AllP_cons h6 AllP_nil))))))
theorem bg2nn_n (r : List (List DV)) (rs : List (List DV)) (i : Int) (o1 : List (List DV)) (g1 : Nat) (a : S4) (i63 : Int) (h1 : ↑(List.length rs) = i63) (h2 : decide (i < i63) = false) :
    Ev C8 noO (Task.code 7 false (loopOf Try.prog 7 2) { σ := slots 107 [(3, vb true), (4, AV.d (DV.sl 7 false r)), (5, AV.d (DV.sl 4 false rs)), (6, AV.st 2 o1 (site 7 32) g1), (7, AV.d (DV.v (Value.slice none 0 0))), (8, AV.d (DV.v (Value.slice none 0 0))), (11, vi i)], h := { toks := [(site 7 32, g1)] } }) (.code (X.exit 4) { σ := slots 107 [(3, vb true), (4, AV.d (DV.sl 7 false r)), (6, AV.st 2 o1 57376 g1), (7, AV.d (DV.v (Value.slice none 0 0))), (8, AV.d (DV.v (Value.slice none 0 0)))], h := { toks := [(57376, g1)] } }) :=
  symM_ev (n := 60) (sc := [(site 7 63, Dec.int i63), (site 7 64, Dec.b false)]) (keep := [3, 4, 6, 7, 8]) (sc' := []) (by kernel_rfl) (AllP_cons h1 (AllP_cons h2 AllP_nil))
theorem bg2nb_yyL (r : List (List DV)) (rs : List (List DV)) (i : Int) (o1 : List (List DV)) (g1 : Nat) (a : S4) (o3 : List (List DV)) (g3 : Nat) (i63 : Int) (i66 : Int) (x : X) (s : St) (h1 : ↑(List.length rs) = i63) (h2 : decide (i < i63) = true) (h3 : 0 ≤ i ∧ rs[Int.toNat i]? = some [di a.1, di a.snd.1, di a.snd.snd.1, di a.snd.snd.2]) (h4 : decide (a.snd.2.snd < 0) = true) (h5 : 0 ≤ i ∧ rs[Int.toNat i]? = some [di a.1, di a.snd.1, di a.snd.snd.1, di a.snd.snd.2]) (h6 : false = false ∧ g3 = g3 ∧ fitsP (List.length o3) 1 16) (h7 : wr64 (i + 1) = i66) (h8 : Ev C8 noO (Task.code 7 false (loopOf Try.prog 7 2) { σ := slots 107 [(3, vb true), (4, AV.d (DV.sl 7 false r)), (5, AV.d (DV.sl 4 false rs)), (6, AV.st 2 o1 57376 g1), (7, AV.d (DV.v (Value.slice none 0 0))), (8, AV.st 2 (o3 ++ [[di a.1, di a.snd.1]]) 57424 (g3 + 1 + 1)), (11, vi i66)], h := { toks := [(57376, g1), (57424, g3 + 1 + 1)] } }) (Res.code x s)) :
    Ev C8 noO (Task.code 7 false (loopOf Try.prog 7 2) { σ := slots 107 [(3, vb true), (4, AV.d (DV.sl 7 false r)), (5, AV.d (DV.sl 4 false rs)), (6, AV.st 2 o1 (site 7 32) g1), (7, AV.d (DV.v (Value.slice none 0 0))), (8, AV.st 2 o3 (site 7 80) g3), (11, vi i)], h := { toks := [(site 7 32, g1), (site 7 80, g3)] } }) (.code (x) s) :=
  sym_ev 60 _ [(site 7 63, Dec.int i63), (site 7 64, Dec.b true), (site 7 69, Dec.row (rowS a)), (site 7 72, Dec.b true), (site 7 76, Dec.row (rowS a)), (site 7 80, Dec.app false), (site 7 66, Dec.int i66), (site 7 8001, Dec.loop [3, 4, 5, 6, 7, 8, 11] x s)] _ [] _ (by kernel_rfl) (AllP_cons h1 (AllP_cons h2 (AllP_cons h3 (AllP_cons h4 (AllP_cons h5 (AllP_cons h6 (AllP_cons h7 (AllP_cons h8 AllP_nil))))))))
theorem bg2nb_ynL (r : List (List DV)) (rs : List (List DV)) (i : Int) (o1 : List (List DV)) (g1 : Nat) (a : S4) (o3 : List (List DV)) (g3 : Nat) (i63 : Int) (i66 : Int) (x : X) (s : St) (h1 : ↑(List.length rs) = i63) (h2 : decide (i < i63) = true) (h3 : 0 ≤ i ∧ rs[Int.toNat i]? = some [di a.1, di a.snd.1, di a.snd.snd.1, di a.snd.snd.2]) (h4 : decide (a.snd.2.snd < 0) = false) (h5 : wr64 (i + 1) = i66) (h6 : Ev C8 noO (Task.code 7 false (loopOf Try.prog 7 2) { σ := slots 107 [(3, vb true), (4, AV.d (DV.sl 7 false r)), (5, AV.d (DV.sl 4 false rs)), (6, AV.st 2 o1 57376 g1), (7, AV.d (DV.v (Value.slice none 0 0))), (8, AV.st 2 o3 57424 g3), (11, vi i66)], h := { toks := [(57376, g1), (57424, g3)] } }) (Res.code x s)) :
    Ev C8 noO (Task.code 7 false (loopOf Try.prog 7 2) { σ := slots 107 [(3, vb true), (4, AV.d (DV.sl 7 false r)), (5, AV.d (DV.sl 4 false rs)), (6, AV.st 2 o1 (site 7 32) g1), (7, AV.d (DV.v (Value.slice none 0 0))), (8, AV.st 2 o3 (site 7 80) g3), (11, vi i)], h := { toks := [(site 7 32, g1), (site 7 80, g3)] } }) (.code (x) s) :=
  sym_ev 60 _ [(site 7 63, Dec.int i63), (site 7 64, Dec.b true), (site 7 69, Dec.row (rowS a)), (site 7 72, Dec.b false), (site 7 66, Dec.int i66), (site 7 8001, Dec.loop [3, 4, 5, 6, 7, 8, 11] x s)] _ [] _ (by kernel_rfl) (AllP_cons h1 (AllP_cons h2 (AllP_cons h3 (AllP_cons h4 (AllP_cons h5 (AllP_cons h6 AllP_nil))))))
theorem bg2nb_n (r : List (List DV)) (rs : List (List DV)) (i : Int) (o1 : List (List DV)) (g1 : Nat) (a : S4) (o3 : List (List DV)) (g3 : Nat) (i63 : Int) (h1 : ↑(List.length rs) = i63) (h2 : decide (i < i63) = false) :
    Ev C8 noO (Task.code 7 false (loopOf Try.prog 7 2) { σ := slots 107 [(3, vb true), (4, AV.d (DV.sl 7 false r)), (5, AV.d (DV.sl 4 false rs)), (6, AV.st 2 o1 (site 7 32) g1), (7, AV.d (DV.v (Value.slice none 0 0))), (8, AV.st 2 o3 (site 7 80) g3), (11, vi i)], h := { toks := [(site 7 32, g1), (site 7 80, g3)] } }) (.code (X.exit 4) { σ := slots 107 [(3, vb true), (4, AV.d (DV.sl 7 false r)), (6, AV.st 2 o1 57376 g1), (7, AV.d (DV.v (Value.slice none 0 0))), (8, AV.st 2 o3 57424 g3)], h := { toks := [(57376, g1), (57424, g3)] } }) :=
  symM_ev (n := 60) (sc := [(site 7 63, Dec.int i63), (site 7 64, Dec.b false)]) (keep := [3, 4, 6, 7, 8]) (sc' := []) (by kernel_rfl) (AllP_cons h1 (AllP_cons h2 AllP_nil))
theorem bg2sa_yyL (r : List (List DV)) (rs : List (List DV)) (i : Int) (o1 : List (List DV)) (g1 : Nat) (a : S4) (o2 : List (List DV)) (g2 : Nat) (o3 : List (List DV)) (g3 : Nat) (i63 : Int) (i66 : Int) (x : X) (s : St) (h1 : ↑(List.length rs) = i63) (h2 : decide (i < i63) = true) (h3 : 0 ≤ i ∧ rs[Int.toNat i]? = some [di a.1, di a.snd.1, di a.snd.snd.1, di a.snd.snd.2]) (h4 : decide (a.snd.2.snd < 0) = true) (h5 : 0 ≤ i ∧ rs[Int.toNat i]? = some [di a.1, di a.snd.1, di a.snd.snd.1, di a.snd.snd.2]) (h6 : false = false ∧ g3 = g3 ∧ fitsP (List.length o3) 1 16) (h7 : wr64 (i + 1) = i66) (h8 : Ev C8 noO (Task.code 7 false (loopOf Try.prog 7 2) { σ := slots 107 [(3, vb true), (4, AV.d (DV.sl 7 false r)), (5, AV.d (DV.sl 4 false rs)), (6, AV.st 2 o1 57376 g1), (7, AV.st 2 o2 57401 g2), (8, AV.st 2 (o3 ++ [[di a.1, di a.snd.1]]) 57424 1), (11, vi i66)], h := { toks := [(57376, g1), (57401, g2), (57404, g3 + 1), (57424, 1)] } }) (Res.code x s)) :
    Ev C8 noO (Task.code 7 false (loopOf Try.prog 7 2) { σ := slots 107 [(3, vb true), (4, AV.d (DV.sl 7 false r)), (5, AV.d (DV.sl 4 false rs)), (6, AV.st 2 o1 (site 7 32) g1), (7, AV.st 2 o2 (site 7 57) g2), (8, AV.st 2 o3 (site 7 60) g3), (11, vi i)], h := { toks := [(site 7 32, g1), (site 7 57, g2), (site 7 60, g3)] } }) (.code (x) s) :=
  sym_ev 60 _ [(site 7 63, Dec.int i63), (site 7 64, Dec.b true), (site 7 69, Dec.row (rowS a)), (site 7 72, Dec.b true), (site 7 76, Dec.row (rowS a)), (site 7 80, Dec.app false), (site 7 66, Dec.int i66), (site 7 8001, Dec.loop [3, 4, 5, 6, 7, 8, 11] x s)] _ [] _ (by kernel_rfl) (AllP_cons h1 (AllP_cons h2 (AllP_cons h3 (AllP_cons h4 (AllP_cons h5 (AllP_cons h6 (AllP_cons h7 (AllP_cons h8 AllP_nil))))))))
theorem bg2sa_ynL (r : List (List DV)) (rs : List (List DV)) (i : Int) (o1 : List (List DV)) (g1 : Nat) (a : S4) (o2 : List (List DV)) (g2 : Nat) (o3 : List (List DV)) (g3 : Nat) (i63 : Int) (i66 : Int) (x : X) (s : St) (h1 : ↑(List.length rs) = i63) (h2 : decide (i < i63) = true) (h3 : 0 ≤ i ∧ rs[Int.toNat i]? = some [di a.1, di a.snd.1, di a.snd.snd.1, di a.snd.snd.2]) (h4 : decide (a.snd.2.snd < 0) = false) (h5 : wr64 (i + 1) = i66) (h6 : Ev C8 noO (Task.code 7 false (loopOf Try.prog 7 2) { σ := slots 107 [(3, vb true), (4, AV.d (DV.sl 7 false r)), (5, AV.d (DV.sl 4 false rs)), (6, AV.st 2 o1 57376 g1), (7, AV.st 2 o2 57401 g2), (8, AV.st 2 o3 57404 g3), (11, vi i66)], h := { toks := [(57376, g1), (57401, g2), (57404, g3)] } }) (Res.code x s)) :
    Ev C8 noO (Task.code 7 false (loopOf Try.prog 7 2) { σ := slots 107 [(3, vb true), (4, AV.d (DV.sl 7 false r)), (5, AV.d (DV.sl 4 false rs)), (6, AV.st 2 o1 (site 7 32) g1), (7, AV.st 2 o2 (site 7 57) g2), (8, AV.st 2 o3 (site 7 60) g3), (11, vi i)], h := { toks := [(site 7 32, g1), (site 7 57, g2), (site 7 60, g3)] } }) (.code (x) s) :=
  sym_ev 60 _ [(site 7 63, Dec.int i63), (site 7 64, Dec.b true), (site 7 69, Dec.row (rowS a)), (site 7 72, Dec.b false), (site 7 66, Dec.int i66), (site 7 8001, Dec.loop [3, 4, 5, 6, 7, 8, 11] x s)] _ [] _ (by kernel_rfl) (AllP_cons h1 (AllP_cons h2 (AllP_cons h3 (AllP_cons h4 (AllP_cons h5 (AllP_cons h6 AllP_nil))))))
theorem bg2sa_n (r : List (List DV)) (rs : List (List DV)) (i : Int) (o1 : List (List DV)) (g1 : Nat) (a : S4) (o2 : List (List DV)) (g2 : Nat) (o3 : List (List DV)) (g3 : Nat) (i63 : Int) (h1 : ↑(List.length rs) = i63) (h2 : decide (i < i63) = false) :
    Ev C8 noO (Task.code 7 false (loopOf Try.prog 7 2) { σ := slots 107 [(3, vb true), (4, AV.d (DV.sl 7 false r)), (5, AV.d (DV.sl 4 false rs)), (6, AV.st 2 o1 (site 7 32) g1), (7, AV.st 2 o2 (site 7 57) g2), (8, AV.st 2 o3 (site 7 60) g3), (11, vi i)], h := { toks := [(site 7 32, g1), (site 7 57, g2), (site 7 60, g3)] } }) (.code (X.exit 4) { σ := slots 107 [(3, vb true), (4, AV.d (DV.sl 7 false r)), (6, AV.st 2 o1 57376 g1), (7, AV.st 2 o2 57401 g2), (8, AV.st 2 o3 57404 g3)], h := { toks := [(57376, g1), (57401, g2), (57404, g3)] } }) :=
  symM_ev (n := 60) (sc := [(site 7 63, Dec.int i63), (site 7 64, Dec.b false)]) (keep := [3, 4, 6, 7, 8]) (sc' := []) (by kernel_rfl) (AllP_cons h1 (AllP_cons h2 AllP_nil))
theorem bg2sb_yyL (r : List (List DV)) (rs : List (List DV)) (i : Int) (o1 : List (List DV)) (g1 : Nat) (a : S4) (o2 : List (List DV)) (g2 : Nat) (o3 : List (List DV)) (g3 : Nat) (g4 : Nat) (i63 : Int) (i66 : Int) (x : X) (s : St) (h1 : ↑(List.length rs) = i63) (h2 : decide (i < i63) = true) (h3 : 0 ≤ i ∧ rs[Int.toNat i]? = some [di a.1, di a.snd.1, di a.snd.snd.1, di a.snd.snd.2]) (h4 : decide (a.snd.2.snd < 0) = true) (h5 : 0 ≤ i ∧ rs[Int.toNat i]? = some [di a.1, di a.snd.1, di a.snd.snd.1, di a.snd.snd.2]) (h6 : false = false ∧ g3 = g3 ∧ fitsP (List.length o3) 1 16) (h7 : wr64 (i + 1) = i66) (h8 : Ev C8 noO (Task.code 7 false (loopOf Try.prog 7 2) { σ := slots 107 [(3, vb true), (4, AV.d (DV.sl 7 false r)), (5, AV.d (DV.sl 4 false rs)), (6, AV.st 2 o1 57376 g1), (7, AV.st 2 o2 57401 g2), (8, AV.st 2 (o3 ++ [[di a.1, di a.snd.1]]) 57424 (g3 + 1 + 1)), (11, vi i66)], h := { toks := [(57376, g1), (57401, g2), (57404, g4), (57424, g3 + 1 + 1)] } }) (Res.code x s)) :
    Ev C8 noO (Task.code 7 false (loopOf Try.prog 7 2) { σ := slots 107 [(3, vb true), (4, AV.d (DV.sl 7 false r)), (5, AV.d (DV.sl 4 false rs)), (6, AV.st 2 o1 (site 7 32) g1), (7, AV.st 2 o2 (site 7 57) g2), (8, AV.st 2 o3 (site 7 80) g3), (11, vi i)], h := { toks := [(site 7 32, g1), (site 7 57, g2), (site 7 60, g4), (site 7 80, g3)] } }) (.code (x) s) :=
  sym_ev 60 _ [(site 7 63, Dec.int i63), (site 7 64, Dec.b true), (site 7 69, Dec.row (rowS a)), (site 7 72, Dec.b true), (site 7 76, Dec.row (rowS a)), (site 7 80, Dec.app false), (site 7 66, Dec.int i66), (site 7 8001, Dec.loop [3, 4, 5, 6, 7, 8, 11] x s)] _ [] _ (by kernel_rfl) (AllP_cons h1 (AllP_cons h2 (AllP_cons h3 (AllP_cons h4 (AllP_cons h5 (AllP_cons h6 (AllP_cons h7 (AllP_cons h8 AllP_nil))))))))
theorem bg2sb_ynL (r : List (List DV)) (rs : List (List DV)) (i : Int) (o1 : List (List DV)) (g1 : Nat) (a : S4) (o2 : List (List DV)) (g2 : Nat) (o3 : List (List DV)) (g3 : Nat) (g4 : Nat) (i63 : Int) (i66 : Int) (x : X) (s : St) (h1 : ↑(List.length rs) = i63) (h2 : decide (i < i63) = true) (h3 : 0 ≤ i ∧ rs[Int.toNat i]? = some [di a.1, di a.snd.1, di a.snd.snd.1, di a.snd.snd.2]) (h4 : decide (a.snd.2.snd < 0) = false) (h5 : wr64 (i + 1) = i66) (h6 : Ev C8 noO (Task.code 7 false (loopOf Try.prog 7 2) { σ := slots 107 [(3, vb true), (4, AV.d (DV.sl 7 false r)), (5, AV.d (DV.sl 4 false rs)), (6, AV.st 2 o1 57376 g1), (7, AV.st 2 o2 57401 g2), (8, AV.st 2 o3 57424 g3), (11, vi i66)], h := { toks := [(57376, g1), (57401, g2), (57404, g4), (57424, g3)] } }) (Res.code x s)) :
    Ev C8 noO (Task.code 7 false (loopOf Try.prog 7 2) { σ := slots 107 [(3, vb true), (4, AV.d (DV.sl 7 false r)), (5, AV.d (DV.sl 4 false rs)), (6, AV.st 2 o1 (site 7 32) g1), (7, AV.st 2 o2 (site 7 57) g2), (8, AV.st 2 o3 (site 7 80) g3), (11, vi i)], h := { toks := [(site 7 32, g1), (site 7 57, g2), (site 7 60, g4), (site 7 80, g3)] } }) (.code (x) s) :=
  sym_ev 60 _ [(site 7 63, Dec.int i63), (site 7 64, Dec.b true), (site 7 69, Dec.row (rowS a)), (site 7 72, Dec.b false), (site 7 66, Dec.int i66), (site 7 8001, Dec.loop [3, 4, 5, 6, 7, 8, 11] x s)] _ [] _ (by kernel_rfl) (AllP_cons h1 (AllP_cons h2 (AllP_cons h3 (AllP_cons h4 (AllP_cons h5 (AllP_cons h6 AllP_nil))))))
theorem bg2sb_n (r : List (List DV)) (rs : List (List DV)) (i : Int) (o1 : List (List DV)) (g1 : Nat) (a : S4) (o2 : List (List DV)) (g2 : Nat) (o3 : List (List DV)) (g3 : Nat) (g4 : Nat) (i63 : Int) (h1 : ↑(List.length rs) = i63) (h2 : decide (i < i63) = false) :
    Ev C8 noO (Task.code 7 false (loopOf Try.prog 7 2) { σ := slots 107 [(3, vb true), (4, AV.d (DV.sl 7 false r)), (5, AV.d (DV.sl 4 false rs)), (6, AV.st 2 o1 (site 7 32) g1), (7, AV.st 2 o2 (site 7 57) g2), (8, AV.st 2 o3 (site 7 80) g3), (11, vi i)], h := { toks := [(site 7 32, g1), (site 7 57, g2), (site 7 60, g4), (site 7 80, g3)] } }) (.code (X.exit 4) { σ := slots 107 [(3, vb true), (4, AV.d (DV.sl 7 false r)), (6, AV.st 2 o1 57376 g1), (7, AV.st 2 o2 57401 g2), (8, AV.st 2 o3 57424 g3)], h := { toks := [(57376, g1), (57401, g2), (57404, g4), (57424, g3)] } }) :=
  symM_ev (n := 60) (sc := [(site 7 63, Dec.int i63), (site 7 64, Dec.b false)]) (keep := [3, 4, 6, 7, 8]) (sc' := []) (by kernel_rfl) (AllP_cons h1 (AllP_cons h2 AllP_nil))

end Go.Ev

namespace Go.Ev
open Go Go.RowKit Go.Proofs

theorem bgcn_y (fu : Bool) (ru : List (List DV)) (r : List (List DV)) (rs : List (List DV)) (o1 : List (List DV)) (g1 : Nat) (o3 : List (List DV)) (g3 : Nat) (i102 : Int) (i104 : Int) (h1 : madeSpec [PV.one (DV.sl 1 fu ru), PV.one (di 40)] = some [PV.one (DV.sl 7 false r)]) (h2 : spansSpecP [PV.one (DV.sl 7 false r)] = some [PV.one (DV.sl 4 false rs)]) (h3 : Ev C8 noO (Task.code 7 false (loopOf Try.prog 7 0) { σ := slots 107 [(3, vb true), (4, AV.d (DV.sl 7 false r)), (5, AV.d (DV.sl 4 false rs)), (6, AV.d (DV.v (Value.slice none 0 0))), (7, AV.d (DV.v (Value.slice none 0 0))), (8, AV.d (DV.v (Value.slice none 0 0))), (9, vi 0)], h := { } }) (Res.code (X.exit 0) { σ := slots 107 [(3, vb true), (4, AV.d (DV.sl 7 false r)), (5, AV.d (DV.sl 4 false rs)), (6, AV.st 2 o1 (site 7 32) g1), (7, AV.d (DV.v (Value.slice none 0 0))), (8, AV.d (DV.v (Value.slice none 0 0)))], h := { toks := [(site 7 32, g1)] } })) (h4 : Ev C8 noO (Task.code 7 false (loopOf Try.prog 7 1) { σ := slots 107 [(3, vb true), (4, AV.d (DV.sl 7 false r)), (5, AV.d (DV.sl 4 false rs)), (6, AV.st 2 o1 57376 g1), (7, AV.d (DV.v (Value.slice none 0 0))), (8, AV.d (DV.v (Value.slice none 0 0))), (10, vi 0)], h := { toks := [(57376, g1)] } }) (Res.code (X.exit 2) { σ := slots 107 [(3, vb true), (4, AV.d (DV.sl 7 false r)), (5, AV.d (DV.sl 4 false rs)), (6, AV.st 2 o1 (site 7 32) g1), (7, AV.d (DV.v (Value.slice none 0 0))), (8, AV.d (DV.v (Value.slice none 0 0)))], h := { toks := [(site 7 32, g1)] } })) (h5 : Ev C8 noO (Task.code 7 false (loopOf Try.prog 7 2) { σ := slots 107 [(3, vb true), (4, AV.d (DV.sl 7 false r)), (5, AV.d (DV.sl 4 false rs)), (6, AV.st 2 o1 57376 g1), (7, AV.d (DV.v (Value.slice none 0 0))), (8, AV.d (DV.v (Value.slice none 0 0))), (11, vi 0)], h := { toks := [(57376, g1)] } }) (Res.code (X.exit 4) { σ := slots 107 [(3, vb true), (4, AV.d (DV.sl 7 false r)), (6, AV.st 2 o1 (site 7 32) g1), (7, AV.d (DV.v (Value.slice none 0 0))), (8, AV.st 2 o3 (site 7 80) g3)], h := { toks := [(site 7 32, g1), (site 7 80, g3)] } })) (h6 : pfitsSpec [PV.one (DV.sl 7 false r), PV.one (DV.sl 2 false o1)] = some [PV.one (di 0)]) (h7 : pfitsSpec [PV.one (DV.sl 7 false r), PV.one (DV.v (Value.slice none 0 0))] = some [PV.one (di 0)]) (h8 : pfitsSpec [PV.one (DV.sl 7 false r), PV.one (DV.sl 2 false o3)] = some [PV.one (di 0)]) (h9 : ↑(List.length o3) = i102) (h10 : ↑(List.length o1) = i104) (h11 : (i102 == i104) = true) :
    Ev C8 noO (Task.call 7 [AV.d (DV.sl 1 fu ru)] { }) (.val (vb true) { toks := [(57376, g1), (57424, g3)] }) :=
  sym_ev 80 _ [(site 7 16, Dec.prim [PV.one (DV.sl 7 false r)]), (site 7 18, Dec.prim [PV.one (DV.sl 4 false rs)]), (site 7 8001, Dec.loop [3, 4, 5, 6, 7, 8, 9] (X.exit 0) { σ := slots 107 [(3, vb true), (4, AV.d (DV.sl 7 false r)), (5, AV.d (DV.sl 4 false rs)), (6, AV.st 2 o1 (site 7 32) g1), (7, AV.d (DV.v (Value.slice none 0 0))), (8, AV.d (DV.v (Value.slice none 0 0)))], h := { toks := [(site 7 32, g1)] } }), (site 7 8001, Dec.loop [3, 4, 5, 6, 7, 8, 10] (X.exit 2) { σ := slots 107 [(3, vb true), (4, AV.d (DV.sl 7 false r)), (5, AV.d (DV.sl 4 false rs)), (6, AV.st 2 o1 (site 7 32) g1), (7, AV.d (DV.v (Value.slice none 0 0))), (8, AV.d (DV.v (Value.slice none 0 0)))], h := { toks := [(site 7 32, g1)] } }), (site 7 8001, Dec.loop [3, 4, 5, 6, 7, 8, 11] (X.exit 4) { σ := slots 107 [(3, vb true), (4, AV.d (DV.sl 7 false r)), (6, AV.st 2 o1 (site 7 32) g1), (7, AV.d (DV.v (Value.slice none 0 0))), (8, AV.st 2 o3 (site 7 80) g3)], h := { toks := [(site 7 32, g1), (site 7 80, g3)] } }), (site 7 85, Dec.prim [pint 0]), (site 7 91, Dec.prim [pint 0]), (site 7 97, Dec.prim [pint 0]), (site 7 102, Dec.int i102), (site 7 104, Dec.int i104), (site 7 105, Dec.b true)] _ [] _ (by kernel_rfl) (AllP_cons h1 (AllP_cons h2 (AllP_cons h3 (AllP_cons h4 (AllP_cons h5 (AllP_cons h6 (AllP_cons h7 (AllP_cons h8 (AllP_cons h9 (AllP_cons h10 (AllP_cons h11 AllP_nil)))))))))))
theorem bgcn_n (fu : Bool) (ru : List (List DV)) (r : List (List DV)) (rs : List (List DV)) (o1 : List (List DV)) (g1 : Nat) (o3 : List (List DV)) (g3 : Nat) (i102 : Int) (i104 : Int) (h1 : madeSpec [PV.one (DV.sl 1 fu ru), PV.one (di 40)] = some [PV.one (DV.sl 7 false r)]) (h2 : spansSpecP [PV.one (DV.sl 7 false r)] = some [PV.one (DV.sl 4 false rs)]) (h3 : Ev C8 noO (Task.code 7 false (loopOf Try.prog 7 0) { σ := slots 107 [(3, vb true), (4, AV.d (DV.sl 7 false r)), (5, AV.d (DV.sl 4 false rs)), (6, AV.d (DV.v (Value.slice none 0 0))), (7, AV.d (DV.v (Value.slice none 0 0))), (8, AV.d (DV.v (Value.slice none 0 0))), (9, vi 0)], h := { } }) (Res.code (X.exit 0) { σ := slots 107 [(3, vb true), (4, AV.d (DV.sl 7 false r)), (5, AV.d (DV.sl 4 false rs)), (6, AV.st 2 o1 (site 7 32) g1), (7, AV.d (DV.v (Value.slice none 0 0))), (8, AV.d (DV.v (Value.slice none 0 0)))], h := { toks := [(site 7 32, g1)] } })) (h4 : Ev C8 noO (Task.code 7 false (loopOf Try.prog 7 1) { σ := slots 107 [(3, vb true), (4, AV.d (DV.sl 7 false r)), (5, AV.d (DV.sl 4 false rs)), (6, AV.st 2 o1 57376 g1), (7, AV.d (DV.v (Value.slice none 0 0))), (8, AV.d (DV.v (Value.slice none 0 0))), (10, vi 0)], h := { toks := [(57376, g1)] } }) (Res.code (X.exit 2) { σ := slots 107 [(3, vb true), (4, AV.d (DV.sl 7 false r)), (5, AV.d (DV.sl 4 false rs)), (6, AV.st 2 o1 (site 7 32) g1), (7, AV.d (DV.v (Value.slice none 0 0))), (8, AV.d (DV.v (Value.slice none 0 0)))], h := { toks := [(site 7 32, g1)] } })) (h5 : Ev C8 noO (Task.code 7 false (loopOf Try.prog 7 2) { σ := slots 107 [(3, vb true), (4, AV.d (DV.sl 7 false r)), (5, AV.d (DV.sl 4 false rs)), (6, AV.st 2 o1 57376 g1), (7, AV.d (DV.v (Value.slice none 0 0))), (8, AV.d (DV.v (Value.slice none 0 0))), (11, vi 0)], h := { toks := [(57376, g1)] } }) (Res.code (X.exit 4) { σ := slots 107 [(3, vb true), (4, AV.d (DV.sl 7 false r)), (6, AV.st 2 o1 (site 7 32) g1), (7, AV.d (DV.v (Value.slice none 0 0))), (8, AV.st 2 o3 (site 7 80) g3)], h := { toks := [(site 7 32, g1), (site 7 80, g3)] } })) (h6 : pfitsSpec [PV.one (DV.sl 7 false r), PV.one (DV.sl 2 false o1)] = some [PV.one (di 0)]) (h7 : pfitsSpec [PV.one (DV.sl 7 false r), PV.one (DV.v (Value.slice none 0 0))] = some [PV.one (di 0)]) (h8 : pfitsSpec [PV.one (DV.sl 7 false r), PV.one (DV.sl 2 false o3)] = some [PV.one (di 0)]) (h9 : ↑(List.length o3) = i102) (h10 : ↑(List.length o1) = i104) (h11 : (i102 == i104) = false) :
    Ev C8 noO (Task.call 7 [AV.d (DV.sl 1 fu ru)] { }) (.val (vb false) { toks := [(57376, g1), (57424, g3)] }) :=
  sym_ev 80 _ [(site 7 16, Dec.prim [PV.one (DV.sl 7 false r)]), (site 7 18, Dec.prim [PV.one (DV.sl 4 false rs)]), (site 7 8001, Dec.loop [3, 4, 5, 6, 7, 8, 9] (X.exit 0) { σ := slots 107 [(3, vb true), (4, AV.d (DV.sl 7 false r)), (5, AV.d (DV.sl 4 false rs)), (6, AV.st 2 o1 (site 7 32) g1), (7, AV.d (DV.v (Value.slice none 0 0))), (8, AV.d (DV.v (Value.slice none 0 0)))], h := { toks := [(site 7 32, g1)] } }), (site 7 8001, Dec.loop [3, 4, 5, 6, 7, 8, 10] (X.exit 2) { σ := slots 107 [(3, vb true), (4, AV.d (DV.sl 7 false r)), (5, AV.d (DV.sl 4 false rs)), (6, AV.st 2 o1 (site 7 32) g1), (7, AV.d (DV.v (Value.slice none 0 0))), (8, AV.d (DV.v (Value.slice none 0 0)))], h := { toks := [(site 7 32, g1)] } }), (site 7 8001, Dec.loop [3, 4, 5, 6, 7, 8, 11] (X.exit 4) { σ := slots 107 [(3, vb true), (4, AV.d (DV.sl 7 false r)), (6, AV.st 2 o1 (site 7 32) g1), (7, AV.d (DV.v (Value.slice none 0 0))), (8, AV.st 2 o3 (site 7 80) g3)], h := { toks := [(site 7 32, g1), (site 7 80, g3)] } }), (site 7 85, Dec.prim [pint 0]), (site 7 91, Dec.prim [pint 0]), (site 7 97, Dec.prim [pint 0]), (site 7 102, Dec.int i102), (site 7 104, Dec.int i104), (site 7 105, Dec.b false)] _ [] _ (by kernel_rfl) (AllP_cons h1 (AllP_cons h2 (AllP_cons h3 (AllP_cons h4 (AllP_cons h5 (AllP_cons h6 (AllP_cons h7 (AllP_cons h8 (AllP_cons h9 (AllP_cons h10 (AllP_cons h11 AllP_nil)))))))))))
theorem bgcs_l1y (fu : Bool) (ru : List (List DV)) (r : List (List DV)) (rs : List (List DV)) (o1 : List (List DV)) (g1 : Nat) (o2 : List (List DV)) (g2 : Nat) (o3 : List (List DV)) (g3 : Nat) (i102 : Int) (i104 : Int) (h1 : madeSpec [PV.one (DV.sl 1 fu ru), PV.one (di 40)] = some [PV.one (DV.sl 7 false r)]) (h2 : spansSpecP [PV.one (DV.sl 7 false r)] = some [PV.one (DV.sl 4 false rs)]) (h3 : Ev C8 noO (Task.code 7 false (loopOf Try.prog 7 0) { σ := slots 107 [(3, vb true), (4, AV.d (DV.sl 7 false r)), (5, AV.d (DV.sl 4 false rs)), (6, AV.d (DV.v (Value.slice none 0 0))), (7, AV.d (DV.v (Value.slice none 0 0))), (8, AV.d (DV.v (Value.slice none 0 0))), (9, vi 0)], h := { } }) (Res.code (X.exit 0) { σ := slots 107 [(3, vb true), (4, AV.d (DV.sl 7 false r)), (5, AV.d (DV.sl 4 false rs)), (6, AV.st 2 o1 (site 7 32) g1), (7, AV.d (DV.v (Value.slice none 0 0))), (8, AV.d (DV.v (Value.slice none 0 0)))], h := { toks := [(site 7 32, g1)] } })) (h4 : Ev C8 noO (Task.code 7 false (loopOf Try.prog 7 1) { σ := slots 107 [(3, vb true), (4, AV.d (DV.sl 7 false r)), (5, AV.d (DV.sl 4 false rs)), (6, AV.st 2 o1 57376 g1), (7, AV.d (DV.v (Value.slice none 0 0))), (8, AV.d (DV.v (Value.slice none 0 0))), (10, vi 0)], h := { toks := [(57376, g1)] } }) (Res.code (X.exit 2) { σ := slots 107 [(3, vb true), (4, AV.d (DV.sl 7 false r)), (5, AV.d (DV.sl 4 false rs)), (6, AV.st 2 o1 (site 7 32) g1), (7, AV.st 2 o2 (site 7 57) g2), (8, AV.d (DV.v (Value.slice none 0 0)))], h := { toks := [(site 7 32, g1), (site 7 57, g2)] } })) (h5 : List.isEmpty o2 = false ∧ fitsP 0 (List.length o2) 16) (h6 : Ev C8 noO (Task.code 7 false (loopOf Try.prog 7 2) { σ := slots 107 [(3, vb true), (4, AV.d (DV.sl 7 false r)), (5, AV.d (DV.sl 4 false rs)), (6, AV.st 2 o1 57376 g1), (7, AV.st 2 o2 57401 g2), (8, AV.st 2 ([] ++ o2) 57404 1), (11, vi 0)], h := { toks := [(57376, g1), (57401, g2), (57404, 1)] } }) (Res.code (X.exit 4) { σ := slots 107 [(3, vb true), (4, AV.d (DV.sl 7 false r)), (6, AV.st 2 o1 (site 7 32) g1), (7, AV.st 2 o2 (site 7 57) g2), (8, AV.st 2 o3 (site 7 60) g3)], h := { toks := [(site 7 32, g1), (site 7 57, g2), (site 7 60, g3)] } })) (h7 : pfitsSpec [PV.one (DV.sl 7 false r), PV.one (DV.sl 2 false o1)] = some [PV.one (di 0)]) (h8 : pfitsSpec [PV.one (DV.sl 7 false r), PV.one (DV.sl 2 false o2)] = some [PV.one (di 0)]) (h9 : pfitsSpec [PV.one (DV.sl 7 false r), PV.one (DV.sl 2 false o3)] = some [PV.one (di 0)]) (h10 : ↑(List.length o3) = i102) (h11 : ↑(List.length o1) = i104) (h12 : (i102 == i104) = true) :
    Ev C8 noO (Task.call 7 [AV.d (DV.sl 1 fu ru)] { }) (.val (vb true) { toks := [(57376, g1), (57401, g2), (57404, g3)] }) :=
  sym_ev 80 _ [(site 7 16, Dec.prim [PV.one (DV.sl 7 false r)]), (site 7 18, Dec.prim [PV.one (DV.sl 4 false rs)]), (site 7 8001, Dec.loop [3, 4, 5, 6, 7, 8, 9] (X.exit 0) { σ := slots 107 [(3, vb true), (4, AV.d (DV.sl 7 false r)), (5, AV.d (DV.sl 4 false rs)), (6, AV.st 2 o1 (site 7 32) g1), (7, AV.d (DV.v (Value.slice none 0 0))), (8, AV.d (DV.v (Value.slice none 0 0)))], h := { toks := [(site 7 32, g1)] } }), (site 7 8001, Dec.loop [3, 4, 5, 6, 7, 8, 10] (X.exit 2) { σ := slots 107 [(3, vb true), (4, AV.d (DV.sl 7 false r)), (5, AV.d (DV.sl 4 false rs)), (6, AV.st 2 o1 (site 7 32) g1), (7, AV.st 2 o2 (site 7 57) g2), (8, AV.d (DV.v (Value.slice none 0 0)))], h := { toks := [(site 7 32, g1), (site 7 57, g2)] } }), (site 7 60, Dec.app false), (site 7 8001, Dec.loop [3, 4, 5, 6, 7, 8, 11] (X.exit 4) { σ := slots 107 [(3, vb true), (4, AV.d (DV.sl 7 false r)), (6, AV.st 2 o1 (site 7 32) g1), (7, AV.st 2 o2 (site 7 57) g2), (8, AV.st 2 o3 (site 7 60) g3)], h := { toks := [(site 7 32, g1), (site 7 57, g2), (site 7 60, g3)] } }), (site 7 85, Dec.prim [pint 0]), (site 7 91, Dec.prim [pint 0]), (site 7 97, Dec.prim [pint 0]), (site 7 102, Dec.int i102), (site 7 104, Dec.int i104), (site 7 105, Dec.b true)] _ [] _ (by kernel_rfl) (AllP_cons h1 (AllP_cons h2 (AllP_cons h3 (AllP_cons h4 (AllP_cons h5 (AllP_cons h6 (AllP_cons h7 (AllP_cons h8 (AllP_cons h9 (AllP_cons h10 (AllP_cons h11 (AllP_cons h12 AllP_nil))))))))))))
theorem bgcs_l1n (fu : Bool) (ru : List (List DV)) (r : List (List DV)) (rs : List (List DV)) (o1 : List (List DV)) (g1 : Nat) (o2 : List (List DV)) (g2 : Nat) (o3 : List (List DV)) (g3 : Nat) (i102 : Int) (i104 : Int) (h1 : madeSpec [PV.one (DV.sl 1 fu ru), PV.one (di 40)] = some [PV.one (DV.sl 7 false r)]) (h2 : spansSpecP [PV.one (DV.sl 7 false r)] = some [PV.one (DV.sl 4 false rs)]) (h3 : Ev C8 noO (Task.code 7 false (loopOf Try.prog 7 0) { σ := slots 107 [(3, vb true), (4, AV.d (DV.sl 7 false r)), (5, AV.d (DV.sl 4 false rs)), (6, AV.d (DV.v (Value.slice none 0 0))), (7, AV.d (DV.v (Value.slice none 0 0))), (8, AV.d (DV.v (Value.slice none 0 0))), (9, vi 0)], h := { } }) (Res.code (X.exit 0) { σ := slots 107 [(3, vb true), (4, AV.d (DV.sl 7 false r)), (5, AV.d (DV.sl 4 false rs)), (6, AV.st 2 o1 (site 7 32) g1), (7, AV.d (DV.v (Value.slice none 0 0))), (8, AV.d (DV.v (Value.slice none 0 0)))], h := { toks := [(site 7 32, g1)] } })) (h4 : Ev C8 noO (Task.code 7 false (loopOf Try.prog 7 1) { σ := slots 107 [(3, vb true), (4, AV.d (DV.sl 7 false r)), (5, AV.d (DV.sl 4 false rs)), (6, AV.st 2 o1 57376 g1), (7, AV.d (DV.v (Value.slice none 0 0))), (8, AV.d (DV.v (Value.slice none 0 0))), (10, vi 0)], h := { toks := [(57376, g1)] } }) (Res.code (X.exit 2) { σ := slots 107 [(3, vb true), (4, AV.d (DV.sl 7 false r)), (5, AV.d (DV.sl 4 false rs)), (6, AV.st 2 o1 (site 7 32) g1), (7, AV.st 2 o2 (site 7 57) g2), (8, AV.d (DV.v (Value.slice none 0 0)))], h := { toks := [(site 7 32, g1), (site 7 57, g2)] } })) (h5 : List.isEmpty o2 = false ∧ fitsP 0 (List.length o2) 16) (h6 : Ev C8 noO (Task.code 7 false (loopOf Try.prog 7 2) { σ := slots 107 [(3, vb true), (4, AV.d (DV.sl 7 false r)), (5, AV.d (DV.sl 4 false rs)), (6, AV.st 2 o1 57376 g1), (7, AV.st 2 o2 57401 g2), (8, AV.st 2 ([] ++ o2) 57404 1), (11, vi 0)], h := { toks := [(57376, g1), (57401, g2), (57404, 1)] } }) (Res.code (X.exit 4) { σ := slots 107 [(3, vb true), (4, AV.d (DV.sl 7 false r)), (6, AV.st 2 o1 (site 7 32) g1), (7, AV.st 2 o2 (site 7 57) g2), (8, AV.st 2 o3 (site 7 60) g3)], h := { toks := [(site 7 32, g1), (site 7 57, g2), (site 7 60, g3)] } })) (h7 : pfitsSpec [PV.one (DV.sl 7 false r), PV.one (DV.sl 2 false o1)] = some [PV.one (di 0)]) (h8 : pfitsSpec [PV.one (DV.sl 7 false r), PV.one (DV.sl 2 false o2)] = some [PV.one (di 0)]) (h9 : pfitsSpec [PV.one (DV.sl 7 false r), PV.one (DV.sl 2 false o3)] = some [PV.one (di 0)]) (h10 : ↑(List.length o3) = i102) (h11 : ↑(List.length o1) = i104) (h12 : (i102 == i104) = false) :
    Ev C8 noO (Task.call 7 [AV.d (DV.sl 1 fu ru)] { }) (.val (vb false) { toks := [(57376, g1), (57401, g2), (57404, g3)] }) :=
  sym_ev 80 _ [(site 7 16, Dec.prim [PV.one (DV.sl 7 false r)]), (site 7 18, Dec.prim [PV.one (DV.sl 4 false rs)]), (site 7 8001, Dec.loop [3, 4, 5, 6, 7, 8, 9] (X.exit 0) { σ := slots 107 [(3, vb true), (4, AV.d (DV.sl 7 false r)), (5, AV.d (DV.sl 4 false rs)), (6, AV.st 2 o1 (site 7 32) g1), (7, AV.d (DV.v (Value.slice none 0 0))), (8, AV.d (DV.v (Value.slice none 0 0)))], h := { toks := [(site 7 32, g1)] } }), (site 7 8001, Dec.loop [3, 4, 5, 6, 7, 8, 10] (X.exit 2) { σ := slots 107 [(3, vb true), (4, AV.d (DV.sl 7 false r)), (5, AV.d (DV.sl 4 false rs)), (6, AV.st 2 o1 (site 7 32) g1), (7, AV.st 2 o2 (site 7 57) g2), (8, AV.d (DV.v (Value.slice none 0 0)))], h := { toks := [(site 7 32, g1), (site 7 57, g2)] } }), (site 7 60, Dec.app false), (site 7 8001, Dec.loop [3, 4, 5, 6, 7, 8, 11] (X.exit 4) { σ := slots 107 [(3, vb true), (4, AV.d (DV.sl 7 false r)), (6, AV.st 2 o1 (site 7 32) g1), (7, AV.st 2 o2 (site 7 57) g2), (8, AV.st 2 o3 (site 7 60) g3)], h := { toks := [(site 7 32, g1), (site 7 57, g2), (site 7 60, g3)] } }), (site 7 85, Dec.prim [pint 0]), (site 7 91, Dec.prim [pint 0]), (site 7 97, Dec.prim [pint 0]), (site 7 102, Dec.int i102), (site 7 104, Dec.int i104), (site 7 105, Dec.b false)] _ [] _ (by kernel_rfl) (AllP_cons h1 (AllP_cons h2 (AllP_cons h3 (AllP_cons h4 (AllP_cons h5 (AllP_cons h6 (AllP_cons h7 (AllP_cons h8 (AllP_cons h9 (AllP_cons h10 (AllP_cons h11 (AllP_cons h12 AllP_nil))))))))))))
theorem bgcs_l2y (fu : Bool) (ru : List (List DV)) (r : List (List DV)) (rs : List (List DV)) (o1 : List (List DV)) (g1 : Nat) (o2 : List (List DV)) (g2 : Nat) (o3 : List (List DV)) (g3 : Nat) (g4 : Nat) (i102 : Int) (i104 : Int) (h1 : madeSpec [PV.one (DV.sl 1 fu ru), PV.one (di 40)] = some [PV.one (DV.sl 7 false r)]) (h2 : spansSpecP [PV.one (DV.sl 7 false r)] = some [PV.one (DV.sl 4 false rs)]) (h3 : Ev C8 noO (Task.code 7 false (loopOf Try.prog 7 0) { σ := slots 107 [(3, vb true), (4, AV.d (DV.sl 7 false r)), (5, AV.d (DV.sl 4 false rs)), (6, AV.d (DV.v (Value.slice none 0 0))), (7, AV.d (DV.v (Value.slice none 0 0))), (8, AV.d (DV.v (Value.slice none 0 0))), (9, vi 0)], h := { } }) (Res.code (X.exit 0) { σ := slots 107 [(3, vb true), (4, AV.d (DV.sl 7 false r)), (5, AV.d (DV.sl 4 false rs)), (6, AV.st 2 o1 (site 7 32) g1), (7, AV.d (DV.v (Value.slice none 0 0))), (8, AV.d (DV.v (Value.slice none 0 0)))], h := { toks := [(site 7 32, g1)] } })) (h4 : Ev C8 noO (Task.code 7 false (loopOf Try.prog 7 1) { σ := slots 107 [(3, vb true), (4, AV.d (DV.sl 7 false r)), (5, AV.d (DV.sl 4 false rs)), (6, AV.st 2 o1 57376 g1), (7, AV.d (DV.v (Value.slice none 0 0))), (8, AV.d (DV.v (Value.slice none 0 0))), (10, vi 0)], h := { toks := [(57376, g1)] } }) (Res.code (X.exit 2) { σ := slots 107 [(3, vb true), (4, AV.d (DV.sl 7 false r)), (5, AV.d (DV.sl 4 false rs)), (6, AV.st 2 o1 (site 7 32) g1), (7, AV.st 2 o2 (site 7 57) g2), (8, AV.d (DV.v (Value.slice none 0 0)))], h := { toks := [(site 7 32, g1), (site 7 57, g2)] } })) (h5 : List.isEmpty o2 = false ∧ fitsP 0 (List.length o2) 16) (h6 : Ev C8 noO (Task.code 7 false (loopOf Try.prog 7 2) { σ := slots 107 [(3, vb true), (4, AV.d (DV.sl 7 false r)), (5, AV.d (DV.sl 4 false rs)), (6, AV.st 2 o1 57376 g1), (7, AV.st 2 o2 57401 g2), (8, AV.st 2 ([] ++ o2) 57404 1), (11, vi 0)], h := { toks := [(57376, g1), (57401, g2), (57404, 1)] } }) (Res.code (X.exit 4) { σ := slots 107 [(3, vb true), (4, AV.d (DV.sl 7 false r)), (6, AV.st 2 o1 (site 7 32) g1), (7, AV.st 2 o2 (site 7 57) g2), (8, AV.st 2 o3 (site 7 80) g3)], h := { toks := [(site 7 32, g1), (site 7 57, g2), (site 7 60, g4), (site 7 80, g3)] } })) (h7 : pfitsSpec [PV.one (DV.sl 7 false r), PV.one (DV.sl 2 false o1)] = some [PV.one (di 0)]) (h8 : pfitsSpec [PV.one (DV.sl 7 false r), PV.one (DV.sl 2 false o2)] = some [PV.one (di 0)]) (h9 : pfitsSpec [PV.one (DV.sl 7 false r), PV.one (DV.sl 2 false o3)] = some [PV.one (di 0)]) (h10 : ↑(List.length o3) = i102) (h11 : ↑(List.length o1) = i104) (h12 : (i102 == i104) = true) :
    Ev C8 noO (Task.call 7 [AV.d (DV.sl 1 fu ru)] { }) (.val (vb true) { toks := [(57376, g1), (57401, g2), (57404, g4), (57424, g3)] }) :=
  sym_ev 80 _ [(site 7 16, Dec.prim [PV.one (DV.sl 7 false r)]), (site 7 18, Dec.prim [PV.one (DV.sl 4 false rs)]), (site 7 8001, Dec.loop [3, 4, 5, 6, 7, 8, 9] (X.exit 0) { σ := slots 107 [(3, vb true), (4, AV.d (DV.sl 7 false r)), (5, AV.d (DV.sl 4 false rs)), (6, AV.st 2 o1 (site 7 32) g1), (7, AV.d (DV.v (Value.slice none 0 0))), (8, AV.d (DV.v (Value.slice none 0 0)))], h := { toks := [(site 7 32, g1)] } }), (site 7 8001, Dec.loop [3, 4, 5, 6, 7, 8, 10] (X.exit 2) { σ := slots 107 [(3, vb true), (4, AV.d (DV.sl 7 false r)), (5, AV.d (DV.sl 4 false rs)), (6, AV.st 2 o1 (site 7 32) g1), (7, AV.st 2 o2 (site 7 57) g2), (8, AV.d (DV.v (Value.slice none 0 0)))], h := { toks := [(site 7 32, g1), (site 7 57, g2)] } }), (site 7 60, Dec.app false), (site 7 8001, Dec.loop [3, 4, 5, 6, 7, 8, 11] (X.exit 4) { σ := slots 107 [(3, vb true), (4, AV.d (DV.sl 7 false r)), (6, AV.st 2 o1 (site 7 32) g1), (7, AV.st 2 o2 (site 7 57) g2), (8, AV.st 2 o3 (site 7 80) g3)], h := { toks := [(site 7 32, g1), (site 7 57, g2), (site 7 60, g4), (site 7 80, g3)] } }), (site 7 85, Dec.prim [pint 0]), (site 7 91, Dec.prim [pint 0]), (site 7 97, Dec.prim [pint 0]), (site 7 102, Dec.int i102), (site 7 104, Dec.int i104), (site 7 105, Dec.b true)] _ [] _ (by kernel_rfl) (AllP_cons h1 (AllP_cons h2 (AllP_cons h3 (AllP_cons h4 (AllP_cons h5 (AllP_cons h6 (AllP_cons h7 (AllP_cons h8 (AllP_cons h9 (AllP_cons h10 (AllP_cons h11 (AllP_cons h12 AllP_nil))))))))))))
theorem bgcs_l2n (fu : Bool) (ru : List (List DV)) (r : List (List DV)) (rs : List (List DV)) (o1 : List (List DV)) (g1 : Nat) (o2 : List (List DV)) (g2 : Nat) (o3 : List (List DV)) (g3 : Nat) (g4 : Nat) (i102 : Int) (i104 : Int) (h1 : madeSpec [PV.one (DV.sl 1 fu ru), PV.one (di 40)] = some [PV.one (DV.sl 7 false r)]) (h2 : spansSpecP [PV.one (DV.sl 7 false r)] = some [PV.one (DV.sl 4 false rs)]) (h3 : Ev C8 noO (Task.code 7 false (loopOf Try.prog 7 0) { σ := slots 107 [(3, vb true), (4, AV.d (DV.sl 7 false r)), (5, AV.d (DV.sl 4 false rs)), (6, AV.d (DV.v (Value.slice none 0 0))), (7, AV.d (DV.v (Value.slice none 0 0))), (8, AV.d (DV.v (Value.slice none 0 0))), (9, vi 0)], h := { } }) (Res.code (X.exit 0) { σ := slots 107 [(3, vb true), (4, AV.d (DV.sl 7 false r)), (5, AV.d (DV.sl 4 false rs)), (6, AV.st 2 o1 (site 7 32) g1), (7, AV.d (DV.v (Value.slice none 0 0))), (8, AV.d (DV.v (Value.slice none 0 0)))], h := { toks := [(site 7 32, g1)] } })) (h4 : Ev C8 noO (Task.code 7 false (loopOf Try.prog 7 1) { σ := slots 107 [(3, vb true), (4, AV.d (DV.sl 7 false r)), (5, AV.d (DV.sl 4 false rs)), (6, AV.st 2 o1 57376 g1), (7, AV.d (DV.v (Value.slice none 0 0))), (8, AV.d (DV.v (Value.slice none 0 0))), (10, vi 0)], h := { toks := [(57376, g1)] } }) (Res.code (X.exit 2) { σ := slots 107 [(3, vb true), (4, AV.d (DV.sl 7 false r)), (5, AV.d (DV.sl 4 false rs)), (6, AV.st 2 o1 (site 7 32) g1), (7, AV.st 2 o2 (site 7 57) g2), (8, AV.d (DV.v (Value.slice none 0 0)))], h := { toks := [(site 7 32, g1), (site 7 57, g2)] } })) (h5 : List.isEmpty o2 = false ∧ fitsP 0 (List.length o2) 16) (h6 : Ev C8 noO (Task.code 7 false (loopOf Try.prog 7 2) { σ := slots 107 [(3, vb true), (4, AV.d (DV.sl 7 false r)), (5, AV.d (DV.sl 4 false rs)), (6, AV.st 2 o1 57376 g1), (7, AV.st 2 o2 57401 g2), (8, AV.st 2 ([] ++ o2) 57404 1), (11, vi 0)], h := { toks := [(57376, g1), (57401, g2), (57404, 1)] } }) (Res.code (X.exit 4) { σ := slots 107 [(3, vb true), (4, AV.d (DV.sl 7 false r)), (6, AV.st 2 o1 (site 7 32) g1), (7, AV.st 2 o2 (site 7 57) g2), (8, AV.st 2 o3 (site 7 80) g3)], h := { toks := [(site 7 32, g1), (site 7 57, g2), (site 7 60, g4), (site 7 80, g3)] } })) (h7 : pfitsSpec [PV.one (DV.sl 7 false r), PV.one (DV.sl 2 false o1)] = some [PV.one (di 0)]) (h8 : pfitsSpec [PV.one (DV.sl 7 false r), PV.one (DV.sl 2 false o2)] = some [PV.one (di 0)]) (h9 : pfitsSpec [PV.one (DV.sl 7 false r), PV.one (DV.sl 2 false o3)] = some [PV.one (di 0)]) (h10 : ↑(List.length o3) = i102) (h11 : ↑(List.length o1) = i104) (h12 : (i102 == i104) = false) :
    Ev C8 noO (Task.call 7 [AV.d (DV.sl 1 fu ru)] { }) (.val (vb false) { toks := [(57376, g1), (57401, g2), (57404, g4), (57424, g3)] }) :=
  sym_ev 80 _ [(site 7 16, Dec.prim [PV.one (DV.sl 7 false r)]), (site 7 18, Dec.prim [PV.one (DV.sl 4 false rs)]), (site 7 8001, Dec.loop [3, 4, 5, 6, 7, 8, 9] (X.exit 0) { σ := slots 107 [(3, vb true), (4, AV.d (DV.sl 7 false r)), (5, AV.d (DV.sl 4 false rs)), (6, AV.st 2 o1 (site 7 32) g1), (7, AV.d (DV.v (Value.slice none 0 0))), (8, AV.d (DV.v (Value.slice none 0 0)))], h := { toks := [(site 7 32, g1)] } }), (site 7 8001, Dec.loop [3, 4, 5, 6, 7, 8, 10] (X.exit 2) { σ := slots 107 [(3, vb true), (4, AV.d (DV.sl 7 false r)), (5, AV.d (DV.sl 4 false rs)), (6, AV.st 2 o1 (site 7 32) g1), (7, AV.st 2 o2 (site 7 57) g2), (8, AV.d (DV.v (Value.slice none 0 0)))], h := { toks := [(site 7 32, g1), (site 7 57, g2)] } }), (site 7 60, Dec.app false), (site 7 8001, Dec.loop [3, 4, 5, 6, 7, 8, 11] (X.exit 4) { σ := slots 107 [(3, vb true), (4, AV.d (DV.sl 7 false r)), (6, AV.st 2 o1 (site 7 32) g1), (7, AV.st 2 o2 (site 7 57) g2), (8, AV.st 2 o3 (site 7 80) g3)], h := { toks := [(site 7 32, g1), (site 7 57, g2), (site 7 60, g4), (site 7 80, g3)] } }), (site 7 85, Dec.prim [pint 0]), (site 7 91, Dec.prim [pint 0]), (site 7 97, Dec.prim [pint 0]), (site 7 102, Dec.int i102), (site 7 104, Dec.int i104), (site 7 105, Dec.b false)] _ [] _ (by kernel_rfl) (AllP_cons h1 (AllP_cons h2 (AllP_cons h3 (AllP_cons h4 (AllP_cons h5 (AllP_cons h6 (AllP_cons h7 (AllP_cons h8 (AllP_cons h9 (AllP_cons h10 (AllP_cons h11 (AllP_cons h12 AllP_nil))))))))))))

end Go.Ev

namespace Go.Ev
open Go Go.RowKit Go.Proofs

theorem bgce_ (fu : Bool) (ru : List (List DV)) (h1 : madeSpec [PV.one (DV.sl 1 fu ru), PV.one (di 40)] = some [PV.one (DV.v (Value.slice none 0 0))]) (h2 : Ev C8 noO (Task.code 7 false (loopOf Try.prog 7 0) { σ := slots 107 [(3, vb true), (4, AV.d (DV.v (Value.slice none 0 0))), (5, AV.d (DV.v (Value.slice none 0 0))), (6, AV.d (DV.v (Value.slice none 0 0))), (7, AV.d (DV.v (Value.slice none 0 0))), (8, AV.d (DV.v (Value.slice none 0 0))), (9, vi 0)], h := { } }) (Res.code (X.exit 0) { σ := slots 107 [(3, vb true), (4, AV.d (DV.v (Value.slice none 0 0))), (5, AV.d (DV.v (Value.slice none 0 0))), (6, AV.d (DV.v (Value.slice none 0 0))), (7, AV.d (DV.v (Value.slice none 0 0))), (8, AV.d (DV.v (Value.slice none 0 0)))], h := { } })) (h3 : Ev C8 noO (Task.code 7 false (loopOf Try.prog 7 1) { σ := slots 107 [(3, vb true), (4, AV.d (DV.v (Value.slice none 0 0))), (5, AV.d (DV.v (Value.slice none 0 0))), (6, AV.d (DV.v (Value.slice none 0 0))), (7, AV.d (DV.v (Value.slice none 0 0))), (8, AV.d (DV.v (Value.slice none 0 0))), (10, vi 0)], h := { } }) (Res.code (X.exit 2) { σ := slots 107 [(3, vb true), (4, AV.d (DV.v (Value.slice none 0 0))), (5, AV.d (DV.v (Value.slice none 0 0))), (6, AV.d (DV.v (Value.slice none 0 0))), (7, AV.d (DV.v (Value.slice none 0 0))), (8, AV.d (DV.v (Value.slice none 0 0)))], h := { } })) (h4 : Ev C8 noO (Task.code 7 false (loopOf Try.prog 7 2) { σ := slots 107 [(3, vb true), (4, AV.d (DV.v (Value.slice none 0 0))), (5, AV.d (DV.v (Value.slice none 0 0))), (6, AV.d (DV.v (Value.slice none 0 0))), (7, AV.d (DV.v (Value.slice none 0 0))), (8, AV.d (DV.v (Value.slice none 0 0))), (11, vi 0)], h := { } }) (Res.code (X.exit 4) { σ := slots 107 [(3, vb true), (4, AV.d (DV.v (Value.slice none 0 0))), (6, AV.d (DV.v (Value.slice none 0 0))), (7, AV.d (DV.v (Value.slice none 0 0))), (8, AV.d (DV.v (Value.slice none 0 0)))], h := { } })) :
    Ev C8 noO (Task.call 7 [AV.d (DV.sl 1 fu ru)] { }) (.val (vb true) { }) :=
  sym_ev 80 _ [(site 7 16, Dec.prim [nilPV]), (site 7 8001, Dec.loop [3, 4, 5, 6, 7, 8, 9] (X.exit 0) { σ := slots 107 [(3, vb true), (4, AV.d (DV.v (Value.slice none 0 0))), (5, AV.d (DV.v (Value.slice none 0 0))), (6, AV.d (DV.v (Value.slice none 0 0))), (7, AV.d (DV.v (Value.slice none 0 0))), (8, AV.d (DV.v (Value.slice none 0 0)))], h := { } }), (site 7 8001, Dec.loop [3, 4, 5, 6, 7, 8, 10] (X.exit 2) { σ := slots 107 [(3, vb true), (4, AV.d (DV.v (Value.slice none 0 0))), (5, AV.d (DV.v (Value.slice none 0 0))), (6, AV.d (DV.v (Value.slice none 0 0))), (7, AV.d (DV.v (Value.slice none 0 0))), (8, AV.d (DV.v (Value.slice none 0 0)))], h := { } }), (site 7 8001, Dec.loop [3, 4, 5, 6, 7, 8, 11] (X.exit 4) { σ := slots 107 [(3, vb true), (4, AV.d (DV.v (Value.slice none 0 0))), (6, AV.d (DV.v (Value.slice none 0 0))), (7, AV.d (DV.v (Value.slice none 0 0))), (8, AV.d (DV.v (Value.slice none 0 0)))], h := { } })] _ [] _ (by kernel_rfl) (AllP_cons h1 (AllP_cons h2 (AllP_cons h3 (AllP_cons h4 AllP_nil))))
theorem bgcN_ (h1 : Ev C8 noO (Task.code 7 false (loopOf Try.prog 7 0) { σ := slots 107 [(3, vb true), (4, AV.d (DV.v (Value.slice none 0 0))), (5, AV.d (DV.v (Value.slice none 0 0))), (6, AV.d (DV.v (Value.slice none 0 0))), (7, AV.d (DV.v (Value.slice none 0 0))), (8, AV.d (DV.v (Value.slice none 0 0))), (9, vi 0)], h := { } }) (Res.code (X.exit 0) { σ := slots 107 [(3, vb true), (4, AV.d (DV.v (Value.slice none 0 0))), (5, AV.d (DV.v (Value.slice none 0 0))), (6, AV.d (DV.v (Value.slice none 0 0))), (7, AV.d (DV.v (Value.slice none 0 0))), (8, AV.d (DV.v (Value.slice none 0 0)))], h := { } })) (h2 : Ev C8 noO (Task.code 7 false (loopOf Try.prog 7 1) { σ := slots 107 [(3, vb true), (4, AV.d (DV.v (Value.slice none 0 0))), (5, AV.d (DV.v (Value.slice none 0 0))), (6, AV.d (DV.v (Value.slice none 0 0))), (7, AV.d (DV.v (Value.slice none 0 0))), (8, AV.d (DV.v (Value.slice none 0 0))), (10, vi 0)], h := { } }) (Res.code (X.exit 2) { σ := slots 107 [(3, vb true), (4, AV.d (DV.v (Value.slice none 0 0))), (5, AV.d (DV.v (Value.slice none 0 0))), (6, AV.d (DV.v (Value.slice none 0 0))), (7, AV.d (DV.v (Value.slice none 0 0))), (8, AV.d (DV.v (Value.slice none 0 0)))], h := { } })) (h3 : Ev C8 noO (Task.code 7 false (loopOf Try.prog 7 2) { σ := slots 107 [(3, vb true), (4, AV.d (DV.v (Value.slice none 0 0))), (5, AV.d (DV.v (Value.slice none 0 0))), (6, AV.d (DV.v (Value.slice none 0 0))), (7, AV.d (DV.v (Value.slice none 0 0))), (8, AV.d (DV.v (Value.slice none 0 0))), (11, vi 0)], h := { } }) (Res.code (X.exit 4) { σ := slots 107 [(3, vb true), (4, AV.d (DV.v (Value.slice none 0 0))), (6, AV.d (DV.v (Value.slice none 0 0))), (7, AV.d (DV.v (Value.slice none 0 0))), (8, AV.d (DV.v (Value.slice none 0 0)))], h := { } })) :
    Ev C8 noO (Task.call 7 [AV.d (DV.v (Value.slice none 0 0))] { }) (.val (vb true) { }) :=
  sym_ev 80 _ [(site 7 8001, Dec.loop [3, 4, 5, 6, 7, 8, 9] (X.exit 0) { σ := slots 107 [(3, vb true), (4, AV.d (DV.v (Value.slice none 0 0))), (5, AV.d (DV.v (Value.slice none 0 0))), (6, AV.d (DV.v (Value.slice none 0 0))), (7, AV.d (DV.v (Value.slice none 0 0))), (8, AV.d (DV.v (Value.slice none 0 0)))], h := { } }), (site 7 8001, Dec.loop [3, 4, 5, 6, 7, 8, 10] (X.exit 2) { σ := slots 107 [(3, vb true), (4, AV.d (DV.v (Value.slice none 0 0))), (5, AV.d (DV.v (Value.slice none 0 0))), (6, AV.d (DV.v (Value.slice none 0 0))), (7, AV.d (DV.v (Value.slice none 0 0))), (8, AV.d (DV.v (Value.slice none 0 0)))], h := { } }), (site 7 8001, Dec.loop [3, 4, 5, 6, 7, 8, 11] (X.exit 4) { σ := slots 107 [(3, vb true), (4, AV.d (DV.v (Value.slice none 0 0))), (6, AV.d (DV.v (Value.slice none 0 0))), (7, AV.d (DV.v (Value.slice none 0 0))), (8, AV.d (DV.v (Value.slice none 0 0)))], h := { } })] _ [] _ (by kernel_rfl) (AllP_cons h1 (AllP_cons h2 (AllP_cons h3 AllP_nil)))
theorem bgA_ : Ev C8 noO (Task.code 7 false (loopOf Try.prog 7 0) { σ := slots 107 [(3, vb true), (4, AV.d (DV.v (Value.slice none 0 0))), (5, AV.d (DV.v (Value.slice none 0 0))), (6, AV.d (DV.v (Value.slice none 0 0))), (7, AV.d (DV.v (Value.slice none 0 0))), (8, AV.d (DV.v (Value.slice none 0 0))), (9, vi 0)], h := { } }) (.code (X.exit 0) { σ := slots 107 [(3, vb true), (4, AV.d (DV.v (Value.slice none 0 0))), (5, AV.d (DV.v (Value.slice none 0 0))), (6, AV.d (DV.v (Value.slice none 0 0))), (7, AV.d (DV.v (Value.slice none 0 0))), (8, AV.d (DV.v (Value.slice none 0 0)))], h := { } }) :=
  symM_ev (n := 60) (sc := []) (keep := [3, 4, 5, 6, 7, 8]) (sc' := []) (by kernel_rfl) AllP_nil
theorem bgB_ : Ev C8 noO (Task.code 7 false (loopOf Try.prog 7 1) { σ := slots 107 [(3, vb true), (4, AV.d (DV.v (Value.slice none 0 0))), (5, AV.d (DV.v (Value.slice none 0 0))), (6, AV.d (DV.v (Value.slice none 0 0))), (7, AV.d (DV.v (Value.slice none 0 0))), (8, AV.d (DV.v (Value.slice none 0 0))), (10, vi 0)], h := { } }) (.code (X.exit 2) { σ := slots 107 [(3, vb true), (4, AV.d (DV.v (Value.slice none 0 0))), (5, AV.d (DV.v (Value.slice none 0 0))), (6, AV.d (DV.v (Value.slice none 0 0))), (7, AV.d (DV.v (Value.slice none 0 0))), (8, AV.d (DV.v (Value.slice none 0 0)))], h := { } }) :=
  symM_ev (n := 60) (sc := []) (keep := [3, 4, 5, 6, 7, 8]) (sc' := []) (by kernel_rfl) AllP_nil
theorem bgD_ : Ev C8 noO (Task.code 7 false (loopOf Try.prog 7 2) { σ := slots 107 [(3, vb true), (4, AV.d (DV.v (Value.slice none 0 0))), (5, AV.d (DV.v (Value.slice none 0 0))), (6, AV.d (DV.v (Value.slice none 0 0))), (7, AV.d (DV.v (Value.slice none 0 0))), (8, AV.d (DV.v (Value.slice none 0 0))), (11, vi 0)], h := { } }) (.code (X.exit 4) { σ := slots 107 [(3, vb true), (4, AV.d (DV.v (Value.slice none 0 0))), (6, AV.d (DV.v (Value.slice none 0 0))), (7, AV.d (DV.v (Value.slice none 0 0))), (8, AV.d (DV.v (Value.slice none 0 0)))], h := { } }) :=
  symM_ev (n := 60) (sc := []) (keep := [3, 4, 6, 7, 8]) (sc' := []) (by kernel_rfl) AllP_nil

end Go.Ev

namespace Go.Ev
open Go

theorem len_of_sub {α : Type} [BEq α] [LawfulBEq α] : ∀ (a b : List α), a.Nodup → (∀ x ∈ a, x ∈ b) → a.length ≤ b.length
  | [], b, _, _ => by simp
  | x :: a, b, hn, hs => by
    rw [List.nodup_cons] at hn
    have hx := hs x (by simp)
    have h2 := len_of_sub a (b.erase x) hn.2 fun y hy => by
      have hne : y ≠ x := fun e => hn.1 (by rw [← e]; exact hy)
      exact (List.mem_erase_of_ne hne).2 (hs y (by simp [hy]))
    rw [List.length_erase_of_mem hx] at h2
    have : 0 < b.length := List.length_pos_of_mem hx
    simp; omega

theorem rf1_of {l : List Evt} : ∀ (order pre : List (Int × Int)), (∀ c ∈ order, 0 ≤ placeI c false l) → (pre ++ order).Nodup → rf1 l pre order = true
  | [], pre, _, _ => rfl
  | c :: r, pre, h1, hn => by
    have h0 := h1 c (by simp)
    unfold rf1
    rw [if_neg (by omega)]
    have hc : pre.contains c = false := by
      cases e : pre.contains c with
      | false => rfl
      | true =>
        have := List.contains_iff_mem.1 e
        rw [List.nodup_append] at hn
        exact absurd rfl (hn.2.2 c this c (by simp))
    rw [hc]
    simp only [Bool.false_eq_true, if_false]
    exact rf1_of r (pre ++ [c]) (fun d hd => h1 d (by simp [hd])) (by simpa using hn)
theorem rf3_of {l : List Evt} : ∀ (order pre : List (Int × Int)), (pre ++ order).Pairwise (fun d c => refBeforeB l c d = false) → rf3 l pre order = true
  | [], pre, _ => rfl
  | c :: r, pre, h => by
    unfold rf3
    have h3 : rf3i l c pre = true := by
      cases e : rf3i l c pre with
      | true => rfl
      | false =>
        obtain ⟨d, hd, hb⟩ := (rf3i_iff l c pre).1 e
        rw [List.pairwise_append] at h
        have := h.2.2 d hd c (by simp)
        rw [hb] at this; cases this
    rw [if_pos h3]
    exact rf3_of r (pre ++ [c]) (by simpa using h)

theorem fits0 {l : List Evt} {order : List (Int × Int)} (hr : rightB l = true) (h1 : ∀ c ∈ order, 0 ≤ placeI c false l) (hn : order.Nodup)
    (h2 : ∀ s ∈ spansI l, 0 ≤ s.2.2.2 → (s.1, s.2.1) ∈ order) (h3 : order.Pairwise (fun d c => beforeB l c d = false)) : fitsB l order = 0 := by
  rw [fits_eq]
  unfold refFitsB
  rw [right_eq] at hr
  rw [hr, rf1_of order [] h1 (by simpa using hn), rf3_of order [] (by simpa [before_eq] using h3)]
  have e2 : rf2 order (refSpansI l) = true := by
    cases e : rf2 order (refSpansI l) with
    | true => rfl
    | false =>
      obtain ⟨s, hs, h4, h5⟩ := (rf2_iff order _).1 e
      rw [← spans_eq] at hs
      have := h2 s hs h4
      rw [← List.contains_iff_mem, h5] at this
      cases this
  rw [e2]
  rfl

theorem spansL_pw (all : List Evt) : ∀ (l : List Evt) (i : Nat), (refSpansL all i l).Pairwise (fun s t => s.2.2.1 < t.2.2.1) ∧ ∀ s ∈ refSpansL all i l, (i : Int) ≤ s.2.2.1
  | [], i => by simp [refSpansL]
  | e :: l, i => by
    obtain ⟨h1, h2⟩ := spansL_pw all l (i + 1)
    unfold refSpansL
    split
    · exact ⟨h1, fun s hs => by have := h2 s hs; omega⟩
    · rw [List.pairwise_cons]
      refine ⟨⟨fun s hs => ?_, h1⟩, fun s hs => ?_⟩
      · have := h2 s hs; simp only; omega
      · rcases List.mem_cons.1 hs with rfl | hs
        · simp
        · have := h2 s hs; omega

def callS (s : S4) : Int × Int := (s.1, s.2.1)
def begI (l : List Evt) : List (Int × Int) := (spansI l).map callS
def endI (l : List Evt) : List (Int × Int) := (l.filter fun e => e.re).map fun e => (e.th, e.ca)
def pendI (l : List Evt) : List (Int × Int) := ((spansI l).filter fun s => decide (s.2.2.2 < 0)).map callS
theorem nodup_of_pw {R : Int × Int → Int} : ∀ {o : List (Int × Int)}, o.Pairwise (fun a b => R a < R b) → o.Nodup := by
  intro o ho
  refine List.Pairwise.imp ?_ ho
  intro a b hab e
  rw [e] at hab
  omega
theorem pend_sub (l : List Evt) : (pendI l).Sublist (begI l) := List.Sublist.map _ List.filter_sublist

section
variable {l : List Evt} (h : rightB l = true)
include h
theorem spans_pw : (spansI l).Pairwise (fun s t => s.2.2.1 < t.2.2.1) := by
  rw [spans_eq]
  unfold refSpansI
  rw [← right_eq, h, if_pos rfl]
  exact (spansL_pw l l 0).1
theorem begun_of_end {c : Int × Int} (h0 : 0 ≤ placeI c true l) : 0 ≤ placeI c false l := by
  obtain ⟨n, e, e1, e2, e3, e4, e5⟩ := ix_of_place h0
  have hc := seq_of h e2
  have hca : 0 ≤ e.ca := by unfold code at hc; rw [e5] at hc; simp at hc; omega
  obtain ⟨m, d, d1, d2, d3, d4⟩ := cnt_hit e.th l (2 * e.ca).toNat n (by unfold code at hc; rw [e5] at hc; simp at hc; omega)
  have hd := seq_of h d2
  rw [d3, d4] at hd
  have hdr : d.re = false := by
    cases er : d.re with
    | false => rfl
    | true => unfold code at hd; rw [er] at hd; simp at hd; omega
  have hdc : d.ca = e.ca := by unfold code at hd; rw [hdr] at hd; simp at hd; omega
  have := place_at_ix h d2
  rw [hdr, d3, hdc, e3, e4] at this
  rw [this]; omega
theorem beg_pw : (begI l).Pairwise (fun a b => placeI a false l < placeI b false l) := by
  unfold begI
  rw [List.pairwise_map]
  refine List.Pairwise.imp_of_mem ?_ (spans_pw h)
  intro s t hs ht hlt
  have e1 := (spans_fact h hs).2.1
  have e2 := (spans_fact h ht).2.1
  unfold callS
  omega
theorem mem_beg (c : Int × Int) : c ∈ begI l ↔ 0 ≤ placeI c false l := by
  unfold begI
  constructor
  · intro hc
    obtain ⟨s, hs, rfl⟩ := List.mem_map.1 hc
    exact (spans_fact h hs).1
  · intro h0
    obtain ⟨n, e, e1, e2, e3, e4, e5⟩ := ix_of_place h0
    obtain ⟨x, x1, x2, x3, x4⟩ := refSpans_mem l e5 l 0 (List.mem_of_getElem? e2)
    refine List.mem_map.2 ⟨x, ?_, ?_⟩
    · rw [spans_eq]
      unfold refSpansI
      rw [← right_eq, h, if_pos rfl]
      exact x1
    · unfold callS
      rw [x2, x3, e3, e4]
theorem ends_pw : ∀ (rest pre : List Evt), pre ++ rest = l → ((rest.filter fun e => e.re).map fun e => (e.th, e.ca)).Pairwise (fun a b => placeI a true l < placeI b true l) ∧
    ∀ c ∈ (rest.filter fun e => e.re).map fun e => (e.th, e.ca), (pre.length : Int) ≤ placeI c true l
  | [], pre, _ => by simp
  | e :: rest, pre, hp => by
    obtain ⟨h1, h2⟩ := ends_pw rest (pre ++ [e]) (by simpa using hp)
    simp only [len_snoc] at h2
    cases hr : e.re with
    | false =>
      simp only [List.filter_cons, hr, Bool.false_eq_true, if_false]
      exact ⟨h1, fun c hc => by have := h2 c hc; omega⟩
    | true =>
      simp only [List.filter_cons, hr, if_true, List.map_cons, List.pairwise_cons]
      have he : l[pre.length]? = some e := by rw [← hp]; simp
      have hpl := place_at_ix h he
      rw [hr] at hpl
      refine ⟨⟨fun c hc => ?_, h1⟩, fun c hc => ?_⟩
      · have := h2 c hc; omega
      · rcases List.mem_cons.1 hc with rfl | hc
        · omega
        · have := h2 c hc; omega
theorem mem_end (c : Int × Int) : c ∈ endI l ↔ 0 ≤ placeI c true l := by
  constructor
  · intro hc
    have := (ends_pw h l [] rfl).2 c hc
    simpa using this
  · intro h0
    obtain ⟨n, e, e1, e2, e3, e4, e5⟩ := ix_of_place h0
    refine List.mem_map.2 ⟨e, ?_, by rw [e3, e4]⟩
    simp [List.mem_of_getElem? e2, e5]
theorem mem_pend (c : Int × Int) : c ∈ pendI l ↔ 0 ≤ placeI c false l ∧ placeI c true l < 0 := by
  unfold pendI
  constructor
  · intro hc
    obtain ⟨s, hs, rfl⟩ := List.mem_map.1 hc
    simp only [List.mem_filter, decide_eq_true_eq] at hs
    obtain ⟨h1, h2, h3⟩ := spans_fact h hs.1
    exact ⟨h1, by unfold callS; omega⟩
  · rintro ⟨h0, h1⟩
    have := (mem_beg h c).2 h0
    obtain ⟨s, hs, rfl⟩ := List.mem_map.1 this
    refine List.mem_map.2 ⟨s, ?_, rfl⟩
    simp only [List.mem_filter, decide_eq_true_eq]
    have := (spans_fact h hs).2.2
    unfold callS at h1
    exact ⟨hs, by omega⟩
theorem beg_nodup : (begI l).Nodup := nodup_of_pw (beg_pw h)
theorem end_nodup : (endI l).Nodup := nodup_of_pw (ends_pw h l [] rfl).1
theorem both_nodup : (endI l ++ pendI l).Nodup := by
  rw [List.nodup_append]
  refine ⟨end_nodup h, List.Nodup.sublist (pend_sub l) (beg_nodup h), fun a ha b hb e => ?_⟩
  rw [e] at ha
  have := (mem_end h b).1 ha
  have := (mem_pend h b).1 hb
  omega
theorem nbf {a b : Int × Int} (hx : ¬ (0 ≤ placeI a true l ∧ placeI a true l < placeI b false l)) : beforeB l a b = false := by
  cases e : beforeB l a b with
  | false => rfl
  | true => exact absurd ((before_iff h a b).1 e) hx
theorem fits_beg : fitsB l (begI l) = 0 := by
  refine fits0 h (fun c hc => (mem_beg h c).1 hc) (beg_nodup h) (fun s hs _ => List.mem_map.2 ⟨s, hs, rfl⟩) ?_
  refine List.Pairwise.imp_of_mem ?_ (beg_pw h)
  intro d c hd hc hlt
  refine nbf h fun hx => ?_
  have := end_after h c hx.1 ((mem_beg h c).1 hc)
  omega
theorem end_ok : (endI l).Pairwise (fun d c => beforeB l c d = false) := by
  refine List.Pairwise.imp_of_mem ?_ (ends_pw h l [] rfl).1
  intro d c hd hc hlt
  refine nbf h fun hx => ?_
  have h1 := (mem_end h d).1 hd
  have := end_after h d h1 (begun_of_end h h1)
  omega
theorem fits_end : fitsB l (endI l) = 0 := by
  refine fits0 h (fun c hc => begun_of_end h ((mem_end h c).1 hc)) (end_nodup h) (fun s hs h0 => (mem_end h _).2 ?_) (end_ok h)
  have := (spans_fact h hs).2.2
  omega
theorem fits_both : fitsB l (endI l ++ pendI l) = 0 := by
  refine fits0 h (fun c hc => ?_) (both_nodup h) (fun s hs h0 => ?_) ?_
  · rcases List.mem_append.1 hc with hc | hc
    · exact begun_of_end h ((mem_end h c).1 hc)
    · exact ((mem_pend h c).1 hc).1
  · have := (spans_fact h hs).2.2
    exact List.mem_append.2 (.inl ((mem_end h _).2 (by omega)))
  · rw [List.pairwise_append]
    refine ⟨end_ok h, ?_, fun d hd c hc => nbf h ?_⟩
    · refine List.Pairwise.imp_of_mem ?_ (List.Nodup.sublist (pend_sub l) (beg_nodup h))
      intro d c hd hc _
      have := ((mem_pend h c).1 hc).2
      exact nbf h (by omega)
    · have := ((mem_pend h c).1 hc).2
      omega
theorem both_len : (endI l ++ pendI l).length = (begI l).length := by
  refine Nat.le_antisymm (len_of_sub _ _ (both_nodup h) fun c hc => ?_) (len_of_sub _ _ (beg_nodup h) fun c hc => ?_)
  · rcases List.mem_append.1 hc with hc | hc
    · exact (mem_beg h c).2 (begun_of_end h ((mem_end h c).1 hc))
    · exact (mem_beg h c).2 ((mem_pend h c).1 hc).1
  · have h0 := (mem_beg h c).1 hc
    by_cases h1 : 0 ≤ placeI c true l
    · exact List.mem_append.2 (.inl ((mem_end h c).2 h1))
    · exact List.mem_append.2 (.inr ((mem_pend h c).2 ⟨h0, by omega⟩))
end

end Go.Ev

namespace Go.Ev
open Go Go.RowKit Go.Proofs

def n7 : AV := .d (.v (.slice none 0 0))
def s7 (l : List Evt) (sp : List S4) (b e o : AV) (more : List (Nat × AV)) (t : List (Nat × Nat)) : St :=
  { σ := slots 107 ((3, vb true) :: (4, .d (.sl 7 false (evRows l))) :: (5, .d (.sl 4 false (rowsS sp))) :: (6, b) :: (7, e) :: (8, o) :: more), h := { toks := t } }
def e7 (l : List Evt) (b e o : AV) (t : List (Nat × Nat)) : St :=
  { σ := slots 107 [(3, vb true), (4, .d (.sl 7 false (evRows l))), (6, b), (7, e), (8, o)], h := { toks := t } }
def endE (l : List Evt) : List (Int × Int) := (l.filter fun e => e.re).map fun e => (e.th, e.ca)
def pendS (l : List S4) : List (Int × Int) := (l.filter fun s => decide (s.2.2.2 < 0)).map callS
section
variable {l : List Evt} (hb : l.length < 2 ^ 40) {sp : List S4} (hs : sp.length < 2 ^ 40)
include hs
theorem b0s_loop : ∀ (rest pre : List S4) (o : List (List DV)) (g : Nat), pre ++ rest = sp → o.length ≤ pre.length →
    ∃ g', Ev C8 noO (.code 7 false (loopOf Try.prog 7 0) (s7 l sp (.st 2 o (site 7 32) g) n7 n7 [(9, vi (pre.length : Nat))] [(site 7 32, g)]))
      (.code (.exit 0) (s7 l sp (.st 2 (o ++ rowsP (rest.map callS)) (site 7 32) g') n7 n7 [] [(site 7 32, g')]))
  | [], pre, o, g, h, ho => ⟨g, by
    have e : o ++ rowsP (([] : List S4).map callS) = o := by simp [rowsP]
    rw [e]
    exact bg0s_n _ _ _ (0, 0, 0, 0) _ _ (sp.length : Nat) (by simp [rowsS]) (dge (by subst h; simp))⟩
  | a :: rest, pre, o, g, h, ho => by
    have hlt := pre_lt h
    have hrow := row_at (g := rowS) h
    obtain ⟨g', ih⟩ := b0s_loop rest (pre ++ [a]) (o ++ [[di a.1, di a.2.1]]) (g + 1 + 1) (pre_snoc h) (by simp; omega)
    simp only [len_snoc] at ih
    have hlen : (((rowsS sp).length : Nat) : Int) = (sp.length : Nat) := by simp [rowsS]
    refine ⟨g', ?_⟩
    have e : o ++ rowsP ((a :: rest).map callS) = (o ++ [[di a.1, di a.2.1]]) ++ rowsP (rest.map callS) := by simp [rowsP, callS, di]
    rw [e]
    exact bg0s_yL _ _ _ a _ _ _ _ _ _ hlen (dlt hlt) hrow ⟨rfl, rfl, by unfold fitsP; omega⟩ (wrap_succ (by omega)) ih
theorem b0_loop (hn : sp ≠ []) : ∃ g', Ev C8 noO (.code 7 false (loopOf Try.prog 7 0) (s7 l sp n7 n7 n7 [(9, vi 0)] []))
      (.code (.exit 0) (s7 l sp (.st 2 (rowsP (sp.map callS)) (site 7 32) g') n7 n7 [] [(site 7 32, g')])) := by
  cases hsp : sp with
  | nil => exact absurd hsp hn
  | cons a rest =>
    rw [← hsp]
    have h : [] ++ (a :: rest) = sp := by simp [hsp]
    have hlt := pre_lt h
    have hrow := row_at (g := rowS) h
    obtain ⟨g', ih⟩ := b0s_loop (l := l) hs rest [a] [[di a.1, di a.2.1]] 1 (by simp [hsp]) (by simp)
    have hlen : (((rowsS sp).length : Nat) : Int) = (sp.length : Nat) := by simp [rowsS]
    refine ⟨g', ?_⟩
    have e : rowsP (sp.map callS) = [[di a.1, di a.2.1]] ++ rowsP (rest.map callS) := by simp [rowsP, callS, di, hsp]
    rw [e]
    exact bg0n_yL _ _ _ a _ 1 _ _ hlen (dlt hlt) hrow rfl ih
end
section
variable {l : List Evt} (hb : l.length < 2 ^ 40) {sp : List S4} (hs : sp.length < 2 ^ 40)
include hb
theorem b1s_loop (b : List (List DV)) (gb : Nat) : ∀ (rest pre : List Evt) (o : List (List DV)) (g : Nat), pre ++ rest = l → o.length ≤ pre.length →
    ∃ g', Ev C8 noO (.code 7 false (loopOf Try.prog 7 1) (s7 l sp (.st 2 b (site 7 32) gb) (.st 2 o (site 7 57) g) n7 [(10, vi (pre.length : Nat))] [(site 7 32, gb), (site 7 57, g)]))
      (.code (.exit 2) (s7 l sp (.st 2 b (site 7 32) gb) (.st 2 (o ++ rowsP (endE rest)) (site 7 57) g') n7 [] [(site 7 32, gb), (site 7 57, g')]))
  | [], pre, o, g, h, ho => ⟨g, by
    have e : o ++ rowsP (endE []) = o := by simp [rowsP, endE]
    rw [e]
    exact bg1s_n _ _ _ _ _ _ _ (l.length : Nat) (by simp [evRows]) (dge (by subst h; simp))⟩
  | a :: rest, pre, o, g, h, ho => by
    have hlt := pre_lt h
    have hrow := row_at (g := Evt.row) h
    have hlen : (((evRows l).length : Nat) : Int) = (l.length : Nat) := by simp [evRows]
    cases hr : a.re with
    | true =>
      obtain ⟨g', ih⟩ := b1s_loop b gb rest (pre ++ [a]) (o ++ [[di a.th, di a.ca]]) (g + 1 + 1) (pre_snoc h) (by simp; omega)
      simp only [len_snoc] at ih
      refine ⟨g', ?_⟩
      have e : o ++ rowsP (endE (a :: rest)) = (o ++ [[di a.th, di a.ca]]) ++ rowsP (endE rest) := by simp [rowsP, endE, di, hr]
      rw [e]
      exact bg1s_yyL _ _ _ _ _ _ _ _ a a a _ _ _ hlen (dlt hlt) hrow hr hrow hrow ⟨rfl, rfl, by unfold fitsP; omega⟩ (wrap_succ (by omega)) ih
    | false =>
      obtain ⟨g', ih⟩ := b1s_loop b gb rest (pre ++ [a]) o g (pre_snoc h) (by simp; omega)
      simp only [len_snoc] at ih
      refine ⟨g', ?_⟩
      have e : endE (a :: rest) = endE rest := by simp [endE, hr]
      rw [e]
      exact bg1s_ynL _ _ _ _ _ _ _ _ a _ _ _ hlen (dlt hlt) hrow hr (wrap_succ (by omega)) ih
theorem b1_loop (b : List (List DV)) (gb : Nat) : ∀ (rest pre : List Evt), pre ++ rest = l →
    (endE rest = [] ∧ Ev C8 noO (.code 7 false (loopOf Try.prog 7 1) (s7 l sp (.st 2 b (site 7 32) gb) n7 n7 [(10, vi (pre.length : Nat))] [(site 7 32, gb)])) (.code (.exit 2) (s7 l sp (.st 2 b (site 7 32) gb) n7 n7 [] [(site 7 32, gb)]))) ∨
    (endE rest ≠ [] ∧ ∃ g', Ev C8 noO (.code 7 false (loopOf Try.prog 7 1) (s7 l sp (.st 2 b (site 7 32) gb) n7 n7 [(10, vi (pre.length : Nat))] [(site 7 32, gb)]))
      (.code (.exit 2) (s7 l sp (.st 2 b (site 7 32) gb) (.st 2 (rowsP (endE rest)) (site 7 57) g') n7 [] [(site 7 32, gb), (site 7 57, g')])))
  | [], pre, h => .inl ⟨rfl, bg1n_n _ _ _ _ _ (l.length : Nat) (by simp [evRows]) (dge (by subst h; simp))⟩
  | a :: rest, pre, h => by
    have hlt := pre_lt h
    have hrow := row_at (g := Evt.row) h
    have hlen : (((evRows l).length : Nat) : Int) = (l.length : Nat) := by simp [evRows]
    cases hr : a.re with
    | true =>
      right
      have e : endE (a :: rest) = (a.th, a.ca) :: endE rest := by simp [endE, hr]
      obtain ⟨g', ih⟩ := b1s_loop (sp := sp) hb b gb rest (pre ++ [a]) [[di a.th, di a.ca]] 1 (pre_snoc h) (by simp)
      simp only [len_snoc] at ih
      refine ⟨by rw [e]; simp, g', ?_⟩
      rw [e]
      exact bg1n_yyL _ _ _ _ _ _ a a a _ _ _ hlen (dlt hlt) hrow hr hrow hrow (wrap_succ (by omega)) ih
    | false =>
      have ih := b1_loop b gb rest (pre ++ [a]) (pre_snoc h)
      simp only [len_snoc] at ih
      have e : endE (a :: rest) = endE rest := by simp [endE, hr]
      rw [e]
      rcases ih with ⟨h1, h2⟩ | ⟨h1, g', h2⟩
      · exact .inl ⟨h1, bg1n_ynL _ _ _ _ _ _ a _ _ _ hlen (dlt hlt) hrow hr (wrap_succ (by omega)) h2⟩
      · exact .inr ⟨h1, g', bg1n_ynL _ _ _ _ _ _ a _ _ _ hlen (dlt hlt) hrow hr (wrap_succ (by omega)) h2⟩
end
section
variable {l : List Evt} (hb : l.length < 2 ^ 40) {sp : List S4} (hs : sp.length < 2 ^ 40)
include hs
theorem b2nb_loop (b : List (List DV)) (gb : Nat) : ∀ (rest pre : List S4) (o : List (List DV)) (g : Nat), pre ++ rest = sp → o.length ≤ pre.length →
    ∃ g', Ev C8 noO (.code 7 false (loopOf Try.prog 7 2) (s7 l sp (.st 2 b (site 7 32) gb) n7 (.st 2 o (site 7 80) g) [(11, vi (pre.length : Nat))] [(site 7 32, gb), (site 7 80, g)]))
      (.code (.exit 4) (e7 l (.st 2 b (site 7 32) gb) n7 (.st 2 (o ++ rowsP (pendS rest)) (site 7 80) g') [(site 7 32, gb), (site 7 80, g')]))
  | [], pre, o, g, h, ho => ⟨g, by
    have e : o ++ rowsP (pendS []) = o := by simp [rowsP, pendS]
    rw [e]
    exact bg2nb_n _ _ _ _ _ (0, 0, 0, 0) _ _ (sp.length : Nat) (by simp [rowsS]) (dge (by subst h; simp))⟩
  | a :: rest, pre, o, g, h, ho => by
    have hlt := pre_lt h
    have hrow := row_at (g := rowS) h
    have hlen : (((rowsS sp).length : Nat) : Int) = (sp.length : Nat) := by simp [rowsS]
    cases hr : decide (a.2.2.2 < 0) with
    | true =>
      obtain ⟨g', ih⟩ := b2nb_loop b gb rest (pre ++ [a]) (o ++ [[di a.1, di a.2.1]]) (g + 1 + 1) (pre_snoc h) (by simp; omega)
      simp only [len_snoc] at ih
      refine ⟨g', ?_⟩
      have e : o ++ rowsP (pendS (a :: rest)) = (o ++ [[di a.1, di a.2.1]]) ++ rowsP (pendS rest) := by simp only [pendS, List.filter_cons, hr, if_true]; simp [rowsP, callS, di]
      rw [e]
      exact bg2nb_yyL _ _ _ _ _ a _ _ _ _ _ _ hlen (dlt hlt) hrow hr hrow ⟨rfl, rfl, by unfold fitsP; omega⟩ (wrap_succ (by omega)) ih
    | false =>
      obtain ⟨g', ih⟩ := b2nb_loop b gb rest (pre ++ [a]) o g (pre_snoc h) (by simp; omega)
      simp only [len_snoc] at ih
      refine ⟨g', ?_⟩
      have e : pendS (a :: rest) = pendS rest := by simp only [pendS, List.filter_cons, hr]; rfl
      rw [e]
      exact bg2nb_ynL _ _ _ _ _ a _ _ _ _ _ _ hlen (dlt hlt) hrow hr (wrap_succ (by omega)) ih
theorem b2n_loop (b : List (List DV)) (gb : Nat) : ∀ (rest pre : List S4), pre ++ rest = sp → pendS rest ≠ [] →
    ∃ g', Ev C8 noO (.code 7 false (loopOf Try.prog 7 2) (s7 l sp (.st 2 b (site 7 32) gb) n7 n7 [(11, vi (pre.length : Nat))] [(site 7 32, gb)]))
      (.code (.exit 4) (e7 l (.st 2 b (site 7 32) gb) n7 (.st 2 (rowsP (pendS rest)) (site 7 80) g') [(site 7 32, gb), (site 7 80, g')]))
  | [], pre, h, hn => absurd rfl hn
  | a :: rest, pre, h, hn => by
    have hlt := pre_lt h
    have hrow := row_at (g := rowS) h
    have hlen : (((rowsS sp).length : Nat) : Int) = (sp.length : Nat) := by simp [rowsS]
    cases hr : decide (a.2.2.2 < 0) with
    | true =>
      have e : rowsP (pendS (a :: rest)) = [[di a.1, di a.2.1]] ++ rowsP (pendS rest) := by simp only [pendS, List.filter_cons, hr, if_true]; simp [rowsP, callS, di]
      obtain ⟨g', ih⟩ := b2nb_loop (l := l) hs b gb rest (pre ++ [a]) [[di a.1, di a.2.1]] 1 (pre_snoc h) (by simp)
      simp only [len_snoc] at ih
      refine ⟨g', ?_⟩
      rw [e]
      exact bg2nn_yyL _ _ _ _ _ a _ _ _ _ hlen (dlt hlt) hrow hr hrow (wrap_succ (by omega)) ih
    | false =>
      have e : pendS (a :: rest) = pendS rest := by simp only [pendS, List.filter_cons, hr]; rfl
      rw [e] at hn ⊢
      obtain ⟨g', ih⟩ := b2n_loop b gb rest (pre ++ [a]) (pre_snoc h) hn
      simp only [len_snoc] at ih
      exact ⟨g', bg2nn_ynL _ _ _ _ _ a _ _ _ _ hlen (dlt hlt) hrow hr (wrap_succ (by omega)) ih⟩
theorem b2sb_loop (b : List (List DV)) (gb : Nat) (en : List (List DV)) (ge g0 : Nat) : ∀ (rest pre : List S4) (o : List (List DV)) (g : Nat), pre ++ rest = sp → o.length < 2 ^ 40 + pre.length →
    ∃ g', Ev C8 noO (.code 7 false (loopOf Try.prog 7 2) (s7 l sp (.st 2 b (site 7 32) gb) (.st 2 en (site 7 57) ge) (.st 2 o (site 7 80) g) [(11, vi (pre.length : Nat))] [(site 7 32, gb), (site 7 57, ge), (site 7 60, g0), (site 7 80, g)]))
      (.code (.exit 4) (e7 l (.st 2 b (site 7 32) gb) (.st 2 en (site 7 57) ge) (.st 2 (o ++ rowsP (pendS rest)) (site 7 80) g') [(site 7 32, gb), (site 7 57, ge), (site 7 60, g0), (site 7 80, g')]))
  | [], pre, o, g, h, ho => ⟨g, by
    have e : o ++ rowsP (pendS []) = o := by simp [rowsP, pendS]
    rw [e]
    exact bg2sb_n _ _ _ _ _ (0, 0, 0, 0) _ _ _ _ _ (sp.length : Nat) (by simp [rowsS]) (dge (by subst h; simp))⟩
  | a :: rest, pre, o, g, h, ho => by
    have hlt := pre_lt h
    have hrow := row_at (g := rowS) h
    have hlen : (((rowsS sp).length : Nat) : Int) = (sp.length : Nat) := by simp [rowsS]
    cases hr : decide (a.2.2.2 < 0) with
    | true =>
      obtain ⟨g', ih⟩ := b2sb_loop b gb en ge g0 rest (pre ++ [a]) (o ++ [[di a.1, di a.2.1]]) (g + 1 + 1) (pre_snoc h) (by simp; omega)
      simp only [len_snoc] at ih
      refine ⟨g', ?_⟩
      have e : o ++ rowsP (pendS (a :: rest)) = (o ++ [[di a.1, di a.2.1]]) ++ rowsP (pendS rest) := by simp only [pendS, List.filter_cons, hr, if_true]; simp [rowsP, callS, di]
      rw [e]
      exact bg2sb_yyL _ _ _ _ _ a _ _ _ _ _ _ _ _ _ hlen (dlt hlt) hrow hr hrow ⟨rfl, rfl, by unfold fitsP; omega⟩ (wrap_succ (by omega)) ih
    | false =>
      obtain ⟨g', ih⟩ := b2sb_loop b gb en ge g0 rest (pre ++ [a]) o g (pre_snoc h) (by simp; omega)
      simp only [len_snoc] at ih
      refine ⟨g', ?_⟩
      have e : pendS (a :: rest) = pendS rest := by simp only [pendS, List.filter_cons, hr]; rfl
      rw [e]
      exact bg2sb_ynL _ _ _ _ _ a _ _ _ _ _ _ _ _ _ hlen (dlt hlt) hrow hr (wrap_succ (by omega)) ih
theorem b2s_loop (b : List (List DV)) (gb : Nat) (en : List (List DV)) (ge : Nat) (o : List (List DV)) (g : Nat) (ho : o.length < 2 ^ 40) : ∀ (rest pre : List S4), pre ++ rest = sp →
    (pendS rest = [] ∧ Ev C8 noO (.code 7 false (loopOf Try.prog 7 2) (s7 l sp (.st 2 b (site 7 32) gb) (.st 2 en (site 7 57) ge) (.st 2 o (site 7 60) g) [(11, vi (pre.length : Nat))] [(site 7 32, gb), (site 7 57, ge), (site 7 60, g)]))
      (.code (.exit 4) (e7 l (.st 2 b (site 7 32) gb) (.st 2 en (site 7 57) ge) (.st 2 o (site 7 60) g) [(site 7 32, gb), (site 7 57, ge), (site 7 60, g)]))) ∨
    (∃ g0 g', Ev C8 noO (.code 7 false (loopOf Try.prog 7 2) (s7 l sp (.st 2 b (site 7 32) gb) (.st 2 en (site 7 57) ge) (.st 2 o (site 7 60) g) [(11, vi (pre.length : Nat))] [(site 7 32, gb), (site 7 57, ge), (site 7 60, g)]))
      (.code (.exit 4) (e7 l (.st 2 b (site 7 32) gb) (.st 2 en (site 7 57) ge) (.st 2 (o ++ rowsP (pendS rest)) (site 7 80) g') [(site 7 32, gb), (site 7 57, ge), (site 7 60, g0), (site 7 80, g')])))
  | [], pre, h => .inl ⟨rfl, bg2sa_n _ _ _ _ _ (0, 0, 0, 0) _ _ _ _ (sp.length : Nat) (by simp [rowsS]) (dge (by subst h; simp))⟩
  | a :: rest, pre, h => by
    have hlt := pre_lt h
    have hrow := row_at (g := rowS) h
    have hlen : (((rowsS sp).length : Nat) : Int) = (sp.length : Nat) := by simp [rowsS]
    cases hr : decide (a.2.2.2 < 0) with
    | true =>
      right
      obtain ⟨g', ih⟩ := b2sb_loop (l := l) hs b gb en ge (g + 1) rest (pre ++ [a]) (o ++ [[di a.1, di a.2.1]]) 1 (pre_snoc h) (by simp; omega)
      simp only [len_snoc] at ih
      refine ⟨g + 1, g', ?_⟩
      have e : o ++ rowsP (pendS (a :: rest)) = (o ++ [[di a.1, di a.2.1]]) ++ rowsP (pendS rest) := by simp only [pendS, List.filter_cons, hr, if_true]; simp [rowsP, callS, di]
      rw [e]
      exact bg2sa_yyL _ _ _ _ _ a _ _ _ _ _ _ _ _ hlen (dlt hlt) hrow hr hrow ⟨rfl, rfl, by unfold fitsP; omega⟩ (wrap_succ (by omega)) ih
    | false =>
      have ih := b2s_loop b gb en ge o g ho rest (pre ++ [a]) (pre_snoc h)
      simp only [len_snoc] at ih
      have e : pendS (a :: rest) = pendS rest := by simp only [pendS, List.filter_cons, hr]; rfl
      rw [e]
      rcases ih with ⟨h1, h2⟩ | ⟨g0, g', h2⟩
      · exact .inl ⟨h1, bg2sa_ynL _ _ _ _ _ a _ _ _ _ _ _ _ _ hlen (dlt hlt) hrow hr (wrap_succ (by omega)) h2⟩
      · exact .inr ⟨g0, g', bg2sa_ynL _ _ _ _ _ a _ _ _ _ _ _ _ _ hlen (dlt hlt) hrow hr (wrap_succ (by omega)) h2⟩
end

end Go.Ev

namespace Go.Ev
open Go Go.RowKit Go.Proofs

theorem pfits_at {l : List Evt} {o : List (Int × Int)} (hb : l.length < 2 ^ 40) (ho : o.length < 2 ^ 40) : pfitsSpec [.one (.sl 7 false (evRows l)), .one (.sl 2 false (rowsP o))] = some [.one (di (fitsB l o))] := by
  have e : callsOf (.one (.sl 2 false (rowsP o))) = some o := callsOf_sl false o
  simp only [pfitsSpec, evtsOf_sl, e, hb, ho, and_self, if_true]; rfl
theorem pfits_nil {l : List Evt} (hb : l.length < 2 ^ 40) : pfitsSpec [.one (.sl 7 false (evRows l)), .one (.v (.slice none 0 0))] = some [.one (di (fitsB l []))] := by
  have e : callsOf (.one (.v (.slice none 0 0))) = some [] := rfl
  simp only [pfitsSpec, evtsOf_sl, e, hb]; rfl
theorem lawBegins_sat : Sat C8 7 lawBytesSpec := by
  refine sat_of_ev (O := noO) hP8 (fun _ _ h => h.elim) hm0 fun ps rs hs => ?_
  unfold lawBytesSpec at hs
  split at hs
  · split at hs
    · rename_i p _ l hl
      simp only [Option.some.injEq] at hs
      subst hs
      obtain ⟨hU, hc⟩ := bytesOf_cases hl
      rcases hc with ⟨rfl, rfl⟩ | ⟨f, rfl⟩
      · exact ⟨_, _, _, bgcN_ bgA_ bgB_ bgD_, rfl⟩
      · have hmd := made_at (f := f) 40 hU (by decide)
        have hM : madeI 40 l = madeL (fun _ => 0) (l.take 40) := rfl
        generalize hL : l.take 40 = w at hM
        have hw : w.length ≤ 40 := by rw [← hL]; simp; omega
        by_cases hn : madeI 40 l = []
        · rw [hn] at hmd
          exact ⟨_, _, _, bgce_ f _ hmd bgA_ bgB_ bgD_, rfl⟩
        · have e1 : madePV 7 (evRows (madeI 40 l)) = .one (.sl 7 false (evRows (madeI 40 l))) := by
            unfold madePV
            rw [if_neg (by simpa [evRows] using hn)]
          rw [e1] at hmd
          generalize hE : madeI 40 l = E at hmd hn hM
          have hEl : E.length = w.length := by rw [hM, made_len]
          have hEb : E.length < 2 ^ 40 := by omega
          have hEr : rightB E = true := by rw [hM]; exact made_right w (by omega)
          have hsn := spans_ne hEr hn
          have hsl : (spansI E).length ≤ E.length := by rw [spans_eq]; exact refSpansI_len E
          have hs40 : (spansI E).length < 2 ^ 40 := by omega
          have hsE := pspans_at (f := false) (l := E) hEb
          rw [made_ne hsn] at hsE
          have hbl : (begI E).length = (spansI E).length := by unfold begI; simp
          have hel : (endI E).length ≤ E.length := by unfold endI; simp; exact List.length_filter_le _ _
          have hbo := both_len hEr
          have f1 := pfits_at (l := E) (o := begI E) hEb (by omega)
          rw [fits_beg hEr] at f1
          have hrl : ∀ o : List (Int × Int), (((rowsP o).length : Nat) : Int) = (o.length : Nat) := fun o => by simp [rowsP]
          have hq : (((endI E ++ pendI E).length : Nat) : Int) = (((begI E).length : Nat) : Int) := by rw [hbo]
          obtain ⟨g1, L0⟩ := b0_loop (l := E) hs40 hsn
          rcases b1_loop (sp := spansI E) hEb (rowsP (begI E)) g1 E [] rfl with ⟨h1, L1⟩ | ⟨h1, g2, L1⟩
          · have h1 : endI E = [] := h1
            have hp : pendI E ≠ [] := fun e => by
              rw [h1, e] at hbo
              have := List.length_pos_iff.2 hsn
              simp at hbo
              omega
            obtain ⟨g3, L2⟩ := b2n_loop (l := E) hs40 (rowsP (begI E)) g1 (spansI E) [] rfl hp
            have f2 := pfits_nil (l := E) hEb
            have f2' := fits_end hEr
            rw [h1] at f2'
            rw [f2'] at f2
            have f3 := pfits_at (l := E) (o := pendI E) hEb (by rw [h1] at hbo; simp at hbo; omega)
            have f3' := fits_both hEr
            rw [h1, List.nil_append] at f3'
            rw [f3'] at f3
            rw [h1, List.nil_append] at hq
            exact ⟨_, _, _, bgcn_y f _ _ _ _ g1 _ g3 _ _ hmd hsE L0 L1 L2 f1 f2 f3 (hrl _) (hrl _) (beq_iff_eq.2 hq), rfl⟩
          · have h1 : endI E ≠ [] := h1
            have f2 := pfits_at (l := E) (o := endI E) hEb (by omega)
            rw [fits_end hEr] at f2
            have f3 := pfits_at (l := E) (o := endI E ++ pendI E) hEb (by omega)
            rw [fits_both hEr] at f3
            have hne : (rowsP (endI E)).isEmpty = false := by
              cases h : endI E with
              | nil => exact absurd h h1
              | cons a r => rfl
            have hfit : fitsP 0 (rowsP (endI E)).length 16 := by unfold fitsP; rw [show (rowsP (endI E)).length = (endI E).length by simp [rowsP]]; omega
            rcases b2s_loop (l := E) hs40 (rowsP (begI E)) g1 (rowsP (endI E)) g2 (rowsP (endI E)) 1 (by simp [rowsP]; omega) (spansI E) [] rfl with ⟨h2, L2⟩ | ⟨g0, g3, L2⟩
            · have h2 : pendI E = [] := h2
              rw [h2, List.append_nil] at f3 hq
              exact ⟨_, _, _, bgcs_l1y f _ _ _ _ g1 _ g2 _ 1 _ _ hmd hsE L0 L1 ⟨hne, hfit⟩ L2 f1 f2 f3 (hrl _) (hrl _) (beq_iff_eq.2 hq), rfl⟩
            · have hr : rowsP (endI E) ++ rowsP (pendI E) = rowsP (endI E ++ pendI E) := by simp [rowsP]
              have hr' : rowsP (endI E) ++ rowsP (pendS (spansI E)) = rowsP (endI E ++ pendI E) := hr
              rw [hr'] at L2
              exact ⟨_, _, _, bgcs_l2y f _ _ _ _ g1 _ g2 _ g3 g0 _ _ hmd hsE L0 L1 ⟨hne, hfit⟩ L2 f1 f2 f3 (hrl _) (hrl _) (beq_iff_eq.2 hq), rfl⟩
    · cases hs
  · cases hs

end Go.Ev

namespace Go.Proofs.Ytgpdnahmgacffaa
open Go Go.Ev Go.RowKit Go.ChangeShapes Go.WideShapes Go.ChangeAt

set_option maxRecDepth 100000 in
theorem begins_lifted (os : Os) (started : os.Started) (H : Type) (enc : TypeId × Value → H) :
    ReturnsInHanded {} Try.checked os 7 .any (Rows.pastBeginsSpec.pre6 enc Try.prog Try.f7 Rows.pastBeginsRow.domain false) (Rows.pastBeginsSpec.post enc Try.prog Try.f7 false true false false) := by
  refine returnsInHanded_of_change (C := Try.checked) own started (by kernel_rfl) Try.func7
    (ChangeSpec.witness6 (enc := enc) (C := Try.checked) false ⟨#[], #[.slice none 0 0], []⟩ 8 (by kernel_rfl) (by kernel_rfl) (by kernel_rfl) (by kernel_rfl)) ?_
  intro W base args ds gs before hval0 hW hcnd0 _
  have hval : ∀ (j : Nat) t v, Try.f7.params[j]? = some t → args[j]? = some v → Value.okWide Try.prog W .any base t v := hval0
  have hW' := hW
  obtain ⟨p, q, hA0, hV, rfl, hfz, hnd⟩ := hW
  have hA : DataW.TrodAll enc Try.prog W 0 (fun _ => true) true Try.f7.params.toList args.toList ds p := hA0
  rw [Try.params7] at hA hval
  obtain ⟨v0, d0, rfl, rfl, h0⟩ := trodAll_one hA
  obtain ⟨rfl, rfl⟩ := trodVars_none hV
  clear hA0 hval0
  obtain ⟨q0, l, r0, e0⟩ := rp_bytes (hval 0 36 v0 rfl rfl) h0
  refine calls_true (C := C8) (f := Try.f7) (ps := [q0]) rfl (fun _ => rfl) lawBegins_sat ?_ rfl hW' rfl rfl rfl rfl ⟨rfl, fun i p v hp hv => ?_⟩ (by simp only [lawBytesSpec, e0])
  · have h : (Try.f7.params.toList.all fun t => decide (t < Try.prog.types.size)) = true := by kernel_rfl
    intro t ht
    rw [List.all_eq_true] at h
    simpa using h t ht
  · match i, hp, hv with
    | 0, hp, hv => simp at hp hv; subst hp; subst hv; exact r0
    | j + 1, hp, hv => simp at hp

theorem begins_holds : Rows.PastBeginsSaid :=
  OpenClaim.holds_of_wide 7 Try.f7 rfl rfl rfl rfl rfl rfl rfl ⟨rfl, rfl, rfl, rfl, rfl⟩ rfl rfl rfl rfl rfl (by kernel_rfl) Try.func7 (by kernel_rfl)
    (of_decide_eq_true (by kernel_rfl)) (by unfold Func.isWrapper; first | (rw [if_pos (by decide +kernel)]; kernel_rfl) | (rw [if_neg (by decide +kernel)]; exact ⟨rfl, rfl⟩))
    (fun os started H enc _ => begins_lifted os started H enc)

end Go.Proofs.Ytgpdnahmgacffaa
