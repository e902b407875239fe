/- Whatever bytes, events and number it is given, the Go function turnspit/turnspitlaw20.PastOrders returns true, does not panic, and leaves its arguments as they were. No conditions. -/
import Derived.Test.YtgpdnahmgacffaaMK
import Derived.Test.YtgpdnahmgacffaaMH
set_option linter.unusedVariables false
set_option linter.unusedSimpArgs false

namespace Go.Ev
open Go Go.RowKit Go.Proofs

noncomputable def C14 : Ctx := { P := Try.prog, prim := primL ((41, allSpec 7) :: L11) }
noncomputable def C15 : Ctx := { P := Try.prog, prim := primL ((25, ordersSpec) :: L11) }
theorem ron_a (most : Int) (hr : refRightSpec [.one (.v (.slice none 0 0))] = some [pbool true]) (h1 : decide (most < 0) = true) : Ev C14 noO (.call 25 [.d (.v (.slice none 0 0)), vi most] {}) (.val (.tup [(.d (.v (.slice none 0 0))), vi 1]) {}) :=
  sym_ev 60 _ [(site 25 8, Dec.prim [pbool true]), (site 25 11, Dec.b true)] _ [] _ (by kernel_rfl) (AllP_cons hr (AllP_cons h1 AllP_nil))
theorem ron_b (most : Int) (hr : refRightSpec [.one (.v (.slice none 0 0))] = some [pbool true]) (h1 : decide (most < 0) = false) (h2 : decide (most > 1000) = true) : Ev C14 noO (.call 25 [.d (.v (.slice none 0 0)), vi most] {}) (.val (.tup [(.d (.v (.slice none 0 0))), vi 1]) {}) :=
  sym_ev 60 _ [(site 25 8, Dec.prim [pbool true]), (site 25 11, Dec.b false), (site 25 14, Dec.b true)] _ [] _ (by kernel_rfl) (AllP_cons hr (AllP_cons h1 (AllP_cons h2 AllP_nil)))
theorem ron_e (most : Int) (yx : DV) (hr : refRightSpec [.one (.v (.slice none 0 0))] = some [pbool true]) (h1 : decide (most < 0) = false) (h2 : decide (most > 1000) = false) (hs : refSpansSpec [.one (.v (.slice none 0 0))] = some [nilPV]) (h4 : sortedSpec [nilPV] = some [nilPV]) (h5 : allSpec 7 [.one (.v (.slice none 0 0)), nilPV, nilPV, nilPV, .one (di most)] = some [.one yx]) : Ev C14 noO (.call 25 [.d (.v (.slice none 0 0)), vi most] {}) (.val (.tup [(.d yx), vi 0]) {}) :=
  sym_ev 60 _ [(site 25 8, Dec.prim [pbool true]), (site 25 11, Dec.b false), (site 25 14, Dec.b false), (site 25 17, Dec.prim [nilPV]), (site 25 23, Dec.prim [nilPV]), (site 25 25, Dec.prim [.one yx])] _ [] _ (by kernel_rfl) (AllP_cons hr (AllP_cons h1 (AllP_cons h2 (AllP_cons hs (AllP_cons h4 (AllP_cons h5 AllP_nil))))))
theorem ros_r (f : Bool) (r : List (List DV)) (most : Int) (hr : refRightSpec [.one (.sl 7 f r)] = some [pbool false]) : Ev C14 noO (.call 25 [.d (.sl 7 f r), vi most] {}) (.val (.tup [(.d (.v (.slice none 0 0))), vi 4]) {}) :=
  sym_ev 60 _ [(site 25 8, Dec.prim [pbool false])] _ [] _ (by kernel_rfl) (AllP_cons hr AllP_nil)
theorem ros_a (f : Bool) (r : List (List DV)) (most : Int) (hr : refRightSpec [.one (.sl 7 f r)] = some [pbool true]) (h1 : decide (most < 0) = true) : Ev C14 noO (.call 25 [.d (.sl 7 f r), vi most] {}) (.val (.tup [(.d (.v (.slice none 0 0))), vi 1]) {}) :=
  sym_ev 60 _ [(site 25 8, Dec.prim [pbool true]), (site 25 11, Dec.b true)] _ [] _ (by kernel_rfl) (AllP_cons hr (AllP_cons h1 AllP_nil))
theorem ros_b (f : Bool) (r : List (List DV)) (most : Int) (hr : refRightSpec [.one (.sl 7 f r)] = some [pbool true]) (h1 : decide (most < 0) = false) (h2 : decide (most > 1000) = true) : Ev C14 noO (.call 25 [.d (.sl 7 f r), vi most] {}) (.val (.tup [(.d (.v (.slice none 0 0))), vi 1]) {}) :=
  sym_ev 60 _ [(site 25 8, Dec.prim [pbool true]), (site 25 11, Dec.b false), (site 25 14, Dec.b true)] _ [] _ (by kernel_rfl) (AllP_cons hr (AllP_cons h1 (AllP_cons h2 AllP_nil)))
theorem ros_c (f : Bool) (r : List (List DV)) (most : Int) (rs : List (List DV)) (n : Int) (hr : refRightSpec [.one (.sl 7 f r)] = some [pbool true]) (h1 : decide (most < 0) = false) (h2 : decide (most > 1000) = false) (hs : refSpansSpec [.one (.sl 7 f r)] = some [.one (.sl 4 false rs)]) (hn : (rs.length : Int) = n) (h3 : decide (n > 7) = true) : Ev C14 noO (.call 25 [.d (.sl 7 f r), vi most] {}) (.val (.tup [(.d (.v (.slice none 0 0))), vi 2]) {}) :=
  sym_ev 60 _ [(site 25 8, Dec.prim [pbool true]), (site 25 11, Dec.b false), (site 25 14, Dec.b false), (site 25 17, Dec.prim [.one (.sl 4 false rs)]), (site 25 19, Dec.int n), (site 25 20, Dec.b true)] _ [] _ (by kernel_rfl) (AllP_cons hr (AllP_cons h1 (AllP_cons h2 (AllP_cons hs (AllP_cons hn (AllP_cons h3 AllP_nil))))))
theorem ros_d (f : Bool) (r : List (List DV)) (most : Int) (rs rc : List (List DV)) (yx : DV) (n : Int) (hr : refRightSpec [.one (.sl 7 f r)] = some [pbool true]) (h1 : decide (most < 0) = false) (h2 : decide (most > 1000) = false) (hs : refSpansSpec [.one (.sl 7 f r)] = some [.one (.sl 4 false rs)]) (hn : (rs.length : Int) = n) (h3 : decide (n > 7) = false) (h4 : sortedSpec [.one (.sl 4 false rs)] = some [.one (.sl 2 false rc)])
    (h5 : allSpec 7 [.one (.sl 7 f r), .one (.sl 2 false rc), nilPV, nilPV, .one (di most)] = some [.one yx]) : Ev C14 noO (.call 25 [.d (.sl 7 f r), vi most] {}) (.val (.tup [(.d yx), vi 0]) {}) :=
  sym_ev 60 _ [(site 25 8, Dec.prim [pbool true]), (site 25 11, Dec.b false), (site 25 14, Dec.b false), (site 25 17, Dec.prim [.one (.sl 4 false rs)]), (site 25 19, Dec.int n), (site 25 20, Dec.b false), (site 25 23, Dec.prim [.one (.sl 2 false rc)]), (site 25 25, Dec.prim [.one yx])] _ [] _ (by kernel_rfl) (AllP_cons hr (AllP_cons h1 (AllP_cons h2 (AllP_cons hs (AllP_cons hn (AllP_cons h3 (AllP_cons h4 (AllP_cons h5 AllP_nil))))))))
theorem ros_e (f : Bool) (r : List (List DV)) (most : Int) (yx : DV) (hr : refRightSpec [.one (.sl 7 f r)] = some [pbool true]) (h1 : decide (most < 0) = false) (h2 : decide (most > 1000) = false) (hs : refSpansSpec [.one (.sl 7 f r)] = some [nilPV]) (h4 : sortedSpec [nilPV] = some [nilPV]) (h5 : allSpec 7 [.one (.sl 7 f r), nilPV, nilPV, nilPV, .one (di most)] = some [.one yx]) : Ev C14 noO (.call 25 [.d (.sl 7 f r), vi most] {}) (.val (.tup [(.d yx), vi 0]) {}) :=
  sym_ev 60 _ [(site 25 8, Dec.prim [pbool true]), (site 25 11, Dec.b false), (site 25 14, Dec.b false), (site 25 17, Dec.prim [nilPV]), (site 25 23, Dec.prim [nilPV]), (site 25 25, Dec.prim [.one yx])] _ [] _ (by kernel_rfl) (AllP_cons hr (AllP_cons h1 (AllP_cons h2 (AllP_cons hs (AllP_cons h4 (AllP_cons h5 AllP_nil))))))
theorem plnn_most (most n : Int) (h21 : decide (most > 60) = true) (h24 : decide (most ≤ 1000) = true) : Ev C15 noO (.call 5 [.d (.v (.slice none 0 0)), .d (.v (.slice none 0 0)), vi most] {}) (.val (vb true) {}) :=
  sym_ev 60 _ [(site 5 21, Dec.b true), (site 5 24, Dec.b true)] _ [] _ (by kernel_rfl) (AllP_cons h21 (AllP_cons h24 AllP_nil))
theorem plnnn0 (most n : Int) (ya yc : DV) (ea ec : Int) (h21 : decide (most > 60) = false) (hm : madeSpec [.one (.v (.slice none 0 0)), .one (di 10)] = some [.one (.v (.slice none 0 0))]) (ha : ordersSpec [.one (.v (.slice none 0 0)), .one (di most)] = some [.one ya, pint ea]) (hc : ordersSpec [.one (.v (.slice none 0 0)), .one (di most)] = some [.one yc, pint ec])
    (h58 : freezeAll {} [.d ya, .d ya] = some ([.one ya, .one ya], {}) ∧ rowsEqSpec [.one ya, .one ya] = some [pbool true]) (h63 : (ea == ea) = true) (h68 : freezeAll {} [.d yc, .d yc] = some ([.one yc, .one yc], {}) ∧ rowsEqSpec [.one yc, .one yc] = some [pbool true]) (h73 : (ec == ec) = true) : Ev C15 noO (.call 5 [.d (.v (.slice none 0 0)), .d (.v (.slice none 0 0)), vi most] {}) (.val (vb true) {}) :=
  sym_ev 80 _ [(site 5 21, Dec.b false), (site 5 29, Dec.prim [.one (.v (.slice none 0 0))]), (site 5 33, Dec.prim [.one ya, pint ea]), (site 5 39, Dec.prim [.one ya, pint ea]), (site 5 45, Dec.prim [.one yc, pint ec]), (site 5 51, Dec.prim [.one yc, pint ec]), (site 5 58, Dec.primA [.one ya, .one ya] [pbool true]), (site 5 63, Dec.b true), (site 5 68, Dec.primA [.one yc, .one yc] [pbool true]), (site 5 73, Dec.b true)] _ [] _ (by kernel_rfl)
    (AllP_cons h21 (AllP_cons hm (AllP_cons ha (AllP_cons ha (AllP_cons hc (AllP_cons hc (AllP_cons h58 (AllP_cons h63 (AllP_cons h68 (AllP_cons h73 AllP_nil))))))))))
theorem plnnn1 (most n : Int) (ya yc : DV) (ea ec : Int) (h21 : decide (most > 60) = true) (h24 : decide (most ≤ 1000) = false) (hm : madeSpec [.one (.v (.slice none 0 0)), .one (di 10)] = some [.one (.v (.slice none 0 0))]) (ha : ordersSpec [.one (.v (.slice none 0 0)), .one (di most)] = some [.one ya, pint ea]) (hc : ordersSpec [.one (.v (.slice none 0 0)), .one (di most)] = some [.one yc, pint ec])
    (h58 : freezeAll {} [.d ya, .d ya] = some ([.one ya, .one ya], {}) ∧ rowsEqSpec [.one ya, .one ya] = some [pbool true]) (h63 : (ea == ea) = true) (h68 : freezeAll {} [.d yc, .d yc] = some ([.one yc, .one yc], {}) ∧ rowsEqSpec [.one yc, .one yc] = some [pbool true]) (h73 : (ec == ec) = true) : Ev C15 noO (.call 5 [.d (.v (.slice none 0 0)), .d (.v (.slice none 0 0)), vi most] {}) (.val (vb true) {}) :=
  sym_ev 80 _ [(site 5 21, Dec.b true), (site 5 24, Dec.b false), (site 5 29, Dec.prim [.one (.v (.slice none 0 0))]), (site 5 33, Dec.prim [.one ya, pint ea]), (site 5 39, Dec.prim [.one ya, pint ea]), (site 5 45, Dec.prim [.one yc, pint ec]), (site 5 51, Dec.prim [.one yc, pint ec]), (site 5 58, Dec.primA [.one ya, .one ya] [pbool true]), (site 5 63, Dec.b true), (site 5 68, Dec.primA [.one yc, .one yc] [pbool true]), (site 5 73, Dec.b true)] _ [] _ (by kernel_rfl)
    (AllP_cons h21 (AllP_cons h24 (AllP_cons hm (AllP_cons ha (AllP_cons ha (AllP_cons hc (AllP_cons hc (AllP_cons h58 (AllP_cons h63 (AllP_cons h68 (AllP_cons h73 AllP_nil)))))))))))
theorem plns_long (f : Bool) (r : List (List DV)) (most n : Int) (hn : (r.length : Int) = n) (h18 : decide (n > 60) = true) : Ev C15 noO (.call 5 [.d (.v (.slice none 0 0)), .d (.sl 7 f r), vi most] {}) (.val (vb true) {}) :=
  sym_ev 60 _ [(site 5 17, Dec.int n), (site 5 18, Dec.b true)] _ [] _ (by kernel_rfl) (AllP_cons hn (AllP_cons h18 AllP_nil))
theorem plns_most (f : Bool) (r : List (List DV)) (most n : Int) (hn : (r.length : Int) = n) (h18 : decide (n > 60) = false) (h21 : decide (most > 60) = true) (h24 : decide (most ≤ 1000) = true) : Ev C15 noO (.call 5 [.d (.v (.slice none 0 0)), .d (.sl 7 f r), vi most] {}) (.val (vb true) {}) :=
  sym_ev 60 _ [(site 5 17, Dec.int n), (site 5 18, Dec.b false), (site 5 21, Dec.b true), (site 5 24, Dec.b true)] _ [] _ (by kernel_rfl) (AllP_cons hn (AllP_cons h18 (AllP_cons h21 (AllP_cons h24 AllP_nil))))
theorem plnsn0 (f : Bool) (r : List (List DV)) (most n : Int) (ya yc : DV) (ea ec : Int) (hn : (r.length : Int) = n) (h18 : decide (n > 60) = false) (h21 : decide (most > 60) = false) (hm : madeSpec [.one (.v (.slice none 0 0)), .one (di 10)] = some [.one (.v (.slice none 0 0))]) (ha : ordersSpec [.one (.v (.slice none 0 0)), .one (di most)] = some [.one ya, pint ea]) (hc : ordersSpec [.one (.sl 7 f r), .one (di most)] = some [.one yc, pint ec])
    (h58 : freezeAll {} [.d ya, .d ya] = some ([.one ya, .one ya], {}) ∧ rowsEqSpec [.one ya, .one ya] = some [pbool true]) (h63 : (ea == ea) = true) (h68 : freezeAll {} [.d yc, .d yc] = some ([.one yc, .one yc], {}) ∧ rowsEqSpec [.one yc, .one yc] = some [pbool true]) (h73 : (ec == ec) = true) : Ev C15 noO (.call 5 [.d (.v (.slice none 0 0)), .d (.sl 7 f r), vi most] {}) (.val (vb true) {}) :=
  sym_ev 80 _ [(site 5 17, Dec.int n), (site 5 18, Dec.b false), (site 5 21, Dec.b false), (site 5 29, Dec.prim [.one (.v (.slice none 0 0))]), (site 5 33, Dec.prim [.one ya, pint ea]), (site 5 39, Dec.prim [.one ya, pint ea]), (site 5 45, Dec.prim [.one yc, pint ec]), (site 5 51, Dec.prim [.one yc, pint ec]), (site 5 58, Dec.primA [.one ya, .one ya] [pbool true]), (site 5 63, Dec.b true), (site 5 68, Dec.primA [.one yc, .one yc] [pbool true]), (site 5 73, Dec.b true)] _ [] _ (by kernel_rfl)
    (AllP_cons hn (AllP_cons h18 (AllP_cons h21 (AllP_cons hm (AllP_cons ha (AllP_cons ha (AllP_cons hc (AllP_cons hc (AllP_cons h58 (AllP_cons h63 (AllP_cons h68 (AllP_cons h73 AllP_nil))))))))))))
theorem plnsn1 (f : Bool) (r : List (List DV)) (most n : Int) (ya yc : DV) (ea ec : Int) (hn : (r.length : Int) = n) (h18 : decide (n > 60) = false) (h21 : decide (most > 60) = true) (h24 : decide (most ≤ 1000) = false) (hm : madeSpec [.one (.v (.slice none 0 0)), .one (di 10)] = some [.one (.v (.slice none 0 0))]) (ha : ordersSpec [.one (.v (.slice none 0 0)), .one (di most)] = some [.one ya, pint ea]) (hc : ordersSpec [.one (.sl 7 f r), .one (di most)] = some [.one yc, pint ec])
    (h58 : freezeAll {} [.d ya, .d ya] = some ([.one ya, .one ya], {}) ∧ rowsEqSpec [.one ya, .one ya] = some [pbool true]) (h63 : (ea == ea) = true) (h68 : freezeAll {} [.d yc, .d yc] = some ([.one yc, .one yc], {}) ∧ rowsEqSpec [.one yc, .one yc] = some [pbool true]) (h73 : (ec == ec) = true) : Ev C15 noO (.call 5 [.d (.v (.slice none 0 0)), .d (.sl 7 f r), vi most] {}) (.val (vb true) {}) :=
  sym_ev 80 _ [(site 5 17, Dec.int n), (site 5 18, Dec.b false), (site 5 21, Dec.b true), (site 5 24, Dec.b false), (site 5 29, Dec.prim [.one (.v (.slice none 0 0))]), (site 5 33, Dec.prim [.one ya, pint ea]), (site 5 39, Dec.prim [.one ya, pint ea]), (site 5 45, Dec.prim [.one yc, pint ec]), (site 5 51, Dec.prim [.one yc, pint ec]), (site 5 58, Dec.primA [.one ya, .one ya] [pbool true]), (site 5 63, Dec.b true), (site 5 68, Dec.primA [.one yc, .one yc] [pbool true]), (site 5 73, Dec.b true)] _ [] _ (by kernel_rfl)
    (AllP_cons hn (AllP_cons h18 (AllP_cons h21 (AllP_cons h24 (AllP_cons hm (AllP_cons ha (AllP_cons ha (AllP_cons hc (AllP_cons hc (AllP_cons h58 (AllP_cons h63 (AllP_cons h68 (AllP_cons h73 AllP_nil)))))))))))))
theorem plsn_most (fu : Bool) (ru : List (List DV)) (most n : Int) (h21 : decide (most > 60) = true) (h24 : decide (most ≤ 1000) = true) : Ev C15 noO (.call 5 [.d (.sl 1 fu ru), .d (.v (.slice none 0 0)), vi most] {}) (.val (vb true) {}) :=
  sym_ev 60 _ [(site 5 21, Dec.b true), (site 5 24, Dec.b true)] _ [] _ (by kernel_rfl) (AllP_cons h21 (AllP_cons h24 AllP_nil))
theorem plsnn0 (fu : Bool) (ru : List (List DV)) (most n : Int) (ya yc : DV) (ea ec : Int) (h21 : decide (most > 60) = false) (hm : madeSpec [.one (.sl 1 fu ru), .one (di 10)] = some [.one (.v (.slice none 0 0))]) (ha : ordersSpec [.one (.v (.slice none 0 0)), .one (di most)] = some [.one ya, pint ea]) (hc : ordersSpec [.one (.v (.slice none 0 0)), .one (di most)] = some [.one yc, pint ec])
    (h58 : freezeAll {} [.d ya, .d ya] = some ([.one ya, .one ya], {}) ∧ rowsEqSpec [.one ya, .one ya] = some [pbool true]) (h63 : (ea == ea) = true) (h68 : freezeAll {} [.d yc, .d yc] = some ([.one yc, .one yc], {}) ∧ rowsEqSpec [.one yc, .one yc] = some [pbool true]) (h73 : (ec == ec) = true) : Ev C15 noO (.call 5 [.d (.sl 1 fu ru), .d (.v (.slice none 0 0)), vi most] {}) (.val (vb true) {}) :=
  sym_ev 80 _ [(site 5 21, Dec.b false), (site 5 29, Dec.prim [.one (.v (.slice none 0 0))]), (site 5 33, Dec.prim [.one ya, pint ea]), (site 5 39, Dec.prim [.one ya, pint ea]), (site 5 45, Dec.prim [.one yc, pint ec]), (site 5 51, Dec.prim [.one yc, pint ec]), (site 5 58, Dec.primA [.one ya, .one ya] [pbool true]), (site 5 63, Dec.b true), (site 5 68, Dec.primA [.one yc, .one yc] [pbool true]), (site 5 73, Dec.b true)] _ [] _ (by kernel_rfl)
    (AllP_cons h21 (AllP_cons hm (AllP_cons ha (AllP_cons ha (AllP_cons hc (AllP_cons hc (AllP_cons h58 (AllP_cons h63 (AllP_cons h68 (AllP_cons h73 AllP_nil))))))))))
theorem plsnn1 (fu : Bool) (ru : List (List DV)) (most n : Int) (ya yc : DV) (ea ec : Int) (h21 : decide (most > 60) = true) (h24 : decide (most ≤ 1000) = false) (hm : madeSpec [.one (.sl 1 fu ru), .one (di 10)] = some [.one (.v (.slice none 0 0))]) (ha : ordersSpec [.one (.v (.slice none 0 0)), .one (di most)] = some [.one ya, pint ea]) (hc : ordersSpec [.one (.v (.slice none 0 0)), .one (di most)] = some [.one yc, pint ec])
    (h58 : freezeAll {} [.d ya, .d ya] = some ([.one ya, .one ya], {}) ∧ rowsEqSpec [.one ya, .one ya] = some [pbool true]) (h63 : (ea == ea) = true) (h68 : freezeAll {} [.d yc, .d yc] = some ([.one yc, .one yc], {}) ∧ rowsEqSpec [.one yc, .one yc] = some [pbool true]) (h73 : (ec == ec) = true) : Ev C15 noO (.call 5 [.d (.sl 1 fu ru), .d (.v (.slice none 0 0)), vi most] {}) (.val (vb true) {}) :=
  sym_ev 80 _ [(site 5 21, Dec.b true), (site 5 24, Dec.b false), (site 5 29, Dec.prim [.one (.v (.slice none 0 0))]), (site 5 33, Dec.prim [.one ya, pint ea]), (site 5 39, Dec.prim [.one ya, pint ea]), (site 5 45, Dec.prim [.one yc, pint ec]), (site 5 51, Dec.prim [.one yc, pint ec]), (site 5 58, Dec.primA [.one ya, .one ya] [pbool true]), (site 5 63, Dec.b true), (site 5 68, Dec.primA [.one yc, .one yc] [pbool true]), (site 5 73, Dec.b true)] _ [] _ (by kernel_rfl)
    (AllP_cons h21 (AllP_cons h24 (AllP_cons hm (AllP_cons ha (AllP_cons ha (AllP_cons hc (AllP_cons hc (AllP_cons h58 (AllP_cons h63 (AllP_cons h68 (AllP_cons h73 AllP_nil)))))))))))
theorem plsns0 (fu : Bool) (ru : List (List DV)) (rm : List (List DV)) (most n : Int) (ya yc : DV) (ea ec : Int) (h21 : decide (most > 60) = false) (hm : madeSpec [.one (.sl 1 fu ru), .one (di 10)] = some [.one (.sl 7 false rm)]) (ha : ordersSpec [.one (.sl 7 false rm), .one (di most)] = some [.one ya, pint ea]) (hc : ordersSpec [.one (.v (.slice none 0 0)), .one (di most)] = some [.one yc, pint ec])
    (h58 : freezeAll {} [.d ya, .d ya] = some ([.one ya, .one ya], {}) ∧ rowsEqSpec [.one ya, .one ya] = some [pbool true]) (h63 : (ea == ea) = true) (h68 : freezeAll {} [.d yc, .d yc] = some ([.one yc, .one yc], {}) ∧ rowsEqSpec [.one yc, .one yc] = some [pbool true]) (h73 : (ec == ec) = true) : Ev C15 noO (.call 5 [.d (.sl 1 fu ru), .d (.v (.slice none 0 0)), vi most] {}) (.val (vb true) {}) :=
  sym_ev 80 _ [(site 5 21, Dec.b false), (site 5 29, Dec.prim [.one (.sl 7 false rm)]), (site 5 33, Dec.prim [.one ya, pint ea]), (site 5 39, Dec.prim [.one ya, pint ea]), (site 5 45, Dec.prim [.one yc, pint ec]), (site 5 51, Dec.prim [.one yc, pint ec]), (site 5 58, Dec.primA [.one ya, .one ya] [pbool true]), (site 5 63, Dec.b true), (site 5 68, Dec.primA [.one yc, .one yc] [pbool true]), (site 5 73, Dec.b true)] _ [] _ (by kernel_rfl)
    (AllP_cons h21 (AllP_cons hm (AllP_cons ha (AllP_cons ha (AllP_cons hc (AllP_cons hc (AllP_cons h58 (AllP_cons h63 (AllP_cons h68 (AllP_cons h73 AllP_nil))))))))))
theorem plsns1 (fu : Bool) (ru : List (List DV)) (rm : List (List DV)) (most n : Int) (ya yc : DV) (ea ec : Int) (h21 : decide (most > 60) = true) (h24 : decide (most ≤ 1000) = false) (hm : madeSpec [.one (.sl 1 fu ru), .one (di 10)] = some [.one (.sl 7 false rm)]) (ha : ordersSpec [.one (.sl 7 false rm), .one (di most)] = some [.one ya, pint ea]) (hc : ordersSpec [.one (.v (.slice none 0 0)), .one (di most)] = some [.one yc, pint ec])
    (h58 : freezeAll {} [.d ya, .d ya] = some ([.one ya, .one ya], {}) ∧ rowsEqSpec [.one ya, .one ya] = some [pbool true]) (h63 : (ea == ea) = true) (h68 : freezeAll {} [.d yc, .d yc] = some ([.one yc, .one yc], {}) ∧ rowsEqSpec [.one yc, .one yc] = some [pbool true]) (h73 : (ec == ec) = true) : Ev C15 noO (.call 5 [.d (.sl 1 fu ru), .d (.v (.slice none 0 0)), vi most] {}) (.val (vb true) {}) :=
  sym_ev 80 _ [(site 5 21, Dec.b true), (site 5 24, Dec.b false), (site 5 29, Dec.prim [.one (.sl 7 false rm)]), (site 5 33, Dec.prim [.one ya, pint ea]), (site 5 39, Dec.prim [.one ya, pint ea]), (site 5 45, Dec.prim [.one yc, pint ec]), (site 5 51, Dec.prim [.one yc, pint ec]), (site 5 58, Dec.primA [.one ya, .one ya] [pbool true]), (site 5 63, Dec.b true), (site 5 68, Dec.primA [.one yc, .one yc] [pbool true]), (site 5 73, Dec.b true)] _ [] _ (by kernel_rfl)
    (AllP_cons h21 (AllP_cons h24 (AllP_cons hm (AllP_cons ha (AllP_cons ha (AllP_cons hc (AllP_cons hc (AllP_cons h58 (AllP_cons h63 (AllP_cons h68 (AllP_cons h73 AllP_nil)))))))))))
theorem plss_long (fu : Bool) (ru : List (List DV)) (f : Bool) (r : List (List DV)) (most n : Int) (hn : (r.length : Int) = n) (h18 : decide (n > 60) = true) : Ev C15 noO (.call 5 [.d (.sl 1 fu ru), .d (.sl 7 f r), vi most] {}) (.val (vb true) {}) :=
  sym_ev 60 _ [(site 5 17, Dec.int n), (site 5 18, Dec.b true)] _ [] _ (by kernel_rfl) (AllP_cons hn (AllP_cons h18 AllP_nil))
theorem plss_most (fu : Bool) (ru : List (List DV)) (f : Bool) (r : List (List DV)) (most n : Int) (hn : (r.length : Int) = n) (h18 : decide (n > 60) = false) (h21 : decide (most > 60) = true) (h24 : decide (most ≤ 1000) = true) : Ev C15 noO (.call 5 [.d (.sl 1 fu ru), .d (.sl 7 f r), vi most] {}) (.val (vb true) {}) :=
  sym_ev 60 _ [(site 5 17, Dec.int n), (site 5 18, Dec.b false), (site 5 21, Dec.b true), (site 5 24, Dec.b true)] _ [] _ (by kernel_rfl) (AllP_cons hn (AllP_cons h18 (AllP_cons h21 (AllP_cons h24 AllP_nil))))
theorem plssn0 (fu : Bool) (ru : List (List DV)) (f : Bool) (r : List (List DV)) (most n : Int) (ya yc : DV) (ea ec : Int) (hn : (r.length : Int) = n) (h18 : decide (n > 60) = false) (h21 : decide (most > 60) = false) (hm : madeSpec [.one (.sl 1 fu ru), .one (di 10)] = some [.one (.v (.slice none 0 0))]) (ha : ordersSpec [.one (.v (.slice none 0 0)), .one (di most)] = some [.one ya, pint ea]) (hc : ordersSpec [.one (.sl 7 f r), .one (di most)] = some [.one yc, pint ec])
    (h58 : freezeAll {} [.d ya, .d ya] = some ([.one ya, .one ya], {}) ∧ rowsEqSpec [.one ya, .one ya] = some [pbool true]) (h63 : (ea == ea) = true) (h68 : freezeAll {} [.d yc, .d yc] = some ([.one yc, .one yc], {}) ∧ rowsEqSpec [.one yc, .one yc] = some [pbool true]) (h73 : (ec == ec) = true) : Ev C15 noO (.call 5 [.d (.sl 1 fu ru), .d (.sl 7 f r), vi most] {}) (.val (vb true) {}) :=
  sym_ev 80 _ [(site 5 17, Dec.int n), (site 5 18, Dec.b false), (site 5 21, Dec.b false), (site 5 29, Dec.prim [.one (.v (.slice none 0 0))]), (site 5 33, Dec.prim [.one ya, pint ea]), (site 5 39, Dec.prim [.one ya, pint ea]), (site 5 45, Dec.prim [.one yc, pint ec]), (site 5 51, Dec.prim [.one yc, pint ec]), (site 5 58, Dec.primA [.one ya, .one ya] [pbool true]), (site 5 63, Dec.b true), (site 5 68, Dec.primA [.one yc, .one yc] [pbool true]), (site 5 73, Dec.b true)] _ [] _ (by kernel_rfl)
    (AllP_cons hn (AllP_cons h18 (AllP_cons h21 (AllP_cons hm (AllP_cons ha (AllP_cons ha (AllP_cons hc (AllP_cons hc (AllP_cons h58 (AllP_cons h63 (AllP_cons h68 (AllP_cons h73 AllP_nil))))))))))))
theorem plssn1 (fu : Bool) (ru : List (List DV)) (f : Bool) (r : List (List DV)) (most n : Int) (ya yc : DV) (ea ec : Int) (hn : (r.length : Int) = n) (h18 : decide (n > 60) = false) (h21 : decide (most > 60) = true) (h24 : decide (most ≤ 1000) = false) (hm : madeSpec [.one (.sl 1 fu ru), .one (di 10)] = some [.one (.v (.slice none 0 0))]) (ha : ordersSpec [.one (.v (.slice none 0 0)), .one (di most)] = some [.one ya, pint ea]) (hc : ordersSpec [.one (.sl 7 f r), .one (di most)] = some [.one yc, pint ec])
    (h58 : freezeAll {} [.d ya, .d ya] = some ([.one ya, .one ya], {}) ∧ rowsEqSpec [.one ya, .one ya] = some [pbool true]) (h63 : (ea == ea) = true) (h68 : freezeAll {} [.d yc, .d yc] = some ([.one yc, .one yc], {}) ∧ rowsEqSpec [.one yc, .one yc] = some [pbool true]) (h73 : (ec == ec) = true) : Ev C15 noO (.call 5 [.d (.sl 1 fu ru), .d (.sl 7 f r), vi most] {}) (.val (vb true) {}) :=
  sym_ev 80 _ [(site 5 17, Dec.int n), (site 5 18, Dec.b false), (site 5 21, Dec.b true), (site 5 24, Dec.b false), (site 5 29, Dec.prim [.one (.v (.slice none 0 0))]), (site 5 33, Dec.prim [.one ya, pint ea]), (site 5 39, Dec.prim [.one ya, pint ea]), (site 5 45, Dec.prim [.one yc, pint ec]), (site 5 51, Dec.prim [.one yc, pint ec]), (site 5 58, Dec.primA [.one ya, .one ya] [pbool true]), (site 5 63, Dec.b true), (site 5 68, Dec.primA [.one yc, .one yc] [pbool true]), (site 5 73, Dec.b true)] _ [] _ (by kernel_rfl)
    (AllP_cons hn (AllP_cons h18 (AllP_cons h21 (AllP_cons h24 (AllP_cons hm (AllP_cons ha (AllP_cons ha (AllP_cons hc (AllP_cons hc (AllP_cons h58 (AllP_cons h63 (AllP_cons h68 (AllP_cons h73 AllP_nil)))))))))))))
theorem plsss0 (fu : Bool) (ru : List (List DV)) (f : Bool) (r : List (List DV)) (rm : List (List DV)) (most n : Int) (ya yc : DV) (ea ec : Int) (hn : (r.length : Int) = n) (h18 : decide (n > 60) = false) (h21 : decide (most > 60) = false) (hm : madeSpec [.one (.sl 1 fu ru), .one (di 10)] = some [.one (.sl 7 false rm)]) (ha : ordersSpec [.one (.sl 7 false rm), .one (di most)] = some [.one ya, pint ea]) (hc : ordersSpec [.one (.sl 7 f r), .one (di most)] = some [.one yc, pint ec])
    (h58 : freezeAll {} [.d ya, .d ya] = some ([.one ya, .one ya], {}) ∧ rowsEqSpec [.one ya, .one ya] = some [pbool true]) (h63 : (ea == ea) = true) (h68 : freezeAll {} [.d yc, .d yc] = some ([.one yc, .one yc], {}) ∧ rowsEqSpec [.one yc, .one yc] = some [pbool true]) (h73 : (ec == ec) = true) : Ev C15 noO (.call 5 [.d (.sl 1 fu ru), .d (.sl 7 f r), vi most] {}) (.val (vb true) {}) :=
  sym_ev 80 _ [(site 5 17, Dec.int n), (site 5 18, Dec.b false), (site 5 21, Dec.b false), (site 5 29, Dec.prim [.one (.sl 7 false rm)]), (site 5 33, Dec.prim [.one ya, pint ea]), (site 5 39, Dec.prim [.one ya, pint ea]), (site 5 45, Dec.prim [.one yc, pint ec]), (site 5 51, Dec.prim [.one yc, pint ec]), (site 5 58, Dec.primA [.one ya, .one ya] [pbool true]), (site 5 63, Dec.b true), (site 5 68, Dec.primA [.one yc, .one yc] [pbool true]), (site 5 73, Dec.b true)] _ [] _ (by kernel_rfl)
    (AllP_cons hn (AllP_cons h18 (AllP_cons h21 (AllP_cons hm (AllP_cons ha (AllP_cons ha (AllP_cons hc (AllP_cons hc (AllP_cons h58 (AllP_cons h63 (AllP_cons h68 (AllP_cons h73 AllP_nil))))))))))))
theorem plsss1 (fu : Bool) (ru : List (List DV)) (f : Bool) (r : List (List DV)) (rm : List (List DV)) (most n : Int) (ya yc : DV) (ea ec : Int) (hn : (r.length : Int) = n) (h18 : decide (n > 60) = false) (h21 : decide (most > 60) = true) (h24 : decide (most ≤ 1000) = false) (hm : madeSpec [.one (.sl 1 fu ru), .one (di 10)] = some [.one (.sl 7 false rm)]) (ha : ordersSpec [.one (.sl 7 false rm), .one (di most)] = some [.one ya, pint ea]) (hc : ordersSpec [.one (.sl 7 f r), .one (di most)] = some [.one yc, pint ec])
    (h58 : freezeAll {} [.d ya, .d ya] = some ([.one ya, .one ya], {}) ∧ rowsEqSpec [.one ya, .one ya] = some [pbool true]) (h63 : (ea == ea) = true) (h68 : freezeAll {} [.d yc, .d yc] = some ([.one yc, .one yc], {}) ∧ rowsEqSpec [.one yc, .one yc] = some [pbool true]) (h73 : (ec == ec) = true) : Ev C15 noO (.call 5 [.d (.sl 1 fu ru), .d (.sl 7 f r), vi most] {}) (.val (vb true) {}) :=
  sym_ev 80 _ [(site 5 17, Dec.int n), (site 5 18, Dec.b false), (site 5 21, Dec.b true), (site 5 24, Dec.b false), (site 5 29, Dec.prim [.one (.sl 7 false rm)]), (site 5 33, Dec.prim [.one ya, pint ea]), (site 5 39, Dec.prim [.one ya, pint ea]), (site 5 45, Dec.prim [.one yc, pint ec]), (site 5 51, Dec.prim [.one yc, pint ec]), (site 5 58, Dec.primA [.one ya, .one ya] [pbool true]), (site 5 63, Dec.b true), (site 5 68, Dec.primA [.one yc, .one yc] [pbool true]), (site 5 73, Dec.b true)] _ [] _ (by kernel_rfl)
    (AllP_cons hn (AllP_cons h18 (AllP_cons h21 (AllP_cons h24 (AllP_cons hm (AllP_cons ha (AllP_cons ha (AllP_cons hc (AllP_cons hc (AllP_cons h58 (AllP_cons h63 (AllP_cons h68 (AllP_cons h73 AllP_nil)))))))))))))

end Go.Ev

namespace Go.Ev
open Go Go.RowKit Go.Proofs

theorem hP14 : PrimOK C14 := primOK_cons hP13 rfl (by decide) (all_sat 7) rfl rfl rfl (by kernel_rfl)
theorem met_len {l : List Evt} (h : rightB l = true) : (metL 0 l []).length = (spansI l).length := by
  have h1 := met_beg h
  have hbl : (begI l).length = (spansI l).length := by unfold begI; simp
  have hm := (met_of h).1
  have hk := keys_met l 0 [] (by simp)
  have h2 := len_of_sub ((metL 0 l []).map (·.1)) (begI l) hk fun c hc => by
    obtain ⟨e, he, rfl⟩ := List.mem_map.1 hc
    have := (getKV_mem e.1 e.2 _ hk).2 he
    exact (mem_beg h e.1).2 ((get_some hm e.1).1 (by rw [this]; rfl))
  simp at h2
  omega
theorem made_X (O : List (List (Int × Int))) : madePV 1 (rowsO O) = .one (dvX O) := by
  unfold dvX
  split
  · rename_i h; subst h; rfl
  · rename_i h
    unfold madePV
    rw [if_neg (by simpa [rowsO] using h)]
theorem resX (O : List (List (Int × Int))) (n : Int) (H1 : H) : resA H1 (.tup [.d (dvX O), vi n]) = some ([.one (dvX O), pint n], H1) := by
  unfold dvX
  split <;> rfl
theorem rright_at {f : Bool} {l : List Evt} {b : Bool} (hb : l.length < 2 ^ 40) (h : rightB l = b) : refRightSpec [.one (.sl 7 f (evRows l))] = some [pbool b] := by
  rw [← h]
  simp only [refRightSpec, evtsOf_sl, hb, if_true, right_eq]
theorem rspans_at {f : Bool} {l : List Evt} (hb : l.length < 2 ^ 40) : refSpansSpec [.one (.sl 7 f (evRows l))] = some [madePV 4 (rowsS (spansI l))] := by
  simp only [refSpansSpec, evtsOf_sl, hb, if_true, spans_eq]
theorem refOrders_sat : Sat C14 25 ordersSpec := by
  refine sat_of_ev (O := noO) hP14 (fun _ _ h => h.elim) hm0 fun ps rs hs => ?_
  unfold ordersSpec at hs
  split at hs
  · rename_i p many
    split at hs
    · rename_i l hl
      split at hs
      · rename_i hb
        simp only [Option.some.injEq] at hs
        subst hs
        have ho : ∀ k : Nat, ordL [] = [[]] := fun _ => by kernel_rfl
        have hme : (metL 0 ([] : List Evt) []).length = 0 := rfl
        unfold ordersR
        rcases evtsOf_cases hl with ⟨rfl, rfl⟩ | ⟨f, rfl⟩
        · have hr : rightB [] = true := by decide
          rw [hr]
          simp only [Bool.true_eq_false, if_false]
          have hrr : refRightSpec [.one (.v (.slice none 0 0))] = some [pbool true] := by
            have : refRightB [] = true := by decide
            simp only [refRightSpec, hl, hb, if_true, this]
          by_cases h1 : many < 0
          · rw [if_pos (.inl h1)]
            exact ⟨_, _, _, ron_a many hrr (decide_eq_true h1), rfl⟩
          · by_cases h2 : many > 1000
            · rw [if_pos (.inr h2)]
              exact ⟨_, _, _, ron_b many hrr (decide_eq_false h1) (decide_eq_true h2), rfl⟩
            · rw [if_neg (by omega), hme, if_neg (by omega), ho 0, made_X]
              have h5 : allSpec 7 [.one (.v (.slice none 0 0)), nilPV, nilPV, nilPV, .one (di many)] = some [.one (dvX (([[]] : List (List (Int × Int))).take many.toNat))] := by
                simp only [allSpec, nilPV, di, hl]
                rw [if_pos (by omega)]
              exact ⟨_, _, _, ron_e many _ hrr (decide_eq_false h1) (decide_eq_false h2) rfl rfl h5, resX _ _ _⟩
        · cases hr : rightB l with
          | false =>
            simp only [if_true]
            exact ⟨_, _, _, ros_r f (evRows l) many (rright_at hb hr), rfl⟩
          | true =>
            simp only [Bool.true_eq_false, if_false]
            have hrr := rright_at (f := f) hb hr
            by_cases h1 : many < 0
            · rw [if_pos (.inl h1)]
              exact ⟨_, _, _, ros_a f (evRows l) many hrr (decide_eq_true h1), rfl⟩
            · by_cases h2 : many > 1000
              · rw [if_pos (.inr h2)]
                exact ⟨_, _, _, ros_b f (evRows l) many hrr (decide_eq_false h1) (decide_eq_true h2), rfl⟩
              · rw [if_neg (by omega), met_len hr]
                have hsp := rspans_at (f := f) hb
                by_cases hn : l = []
                · subst hn
                  have hs0 : spansI [] = [] := by kernel_rfl
                  rw [hs0, if_neg (by simp), ho 0, made_X]
                  have h5 : allSpec 7 [.one (.sl 7 f (evRows [])), nilPV, nilPV, nilPV, .one (di many)] = some [.one (dvX (([[]] : List (List (Int × Int))).take many.toNat))] := by
                    simp only [allSpec, nilPV, di, hl]
                    rw [if_pos (by omega)]
                  rw [hs0] at hsp
                  exact ⟨_, _, _, ros_e f (evRows []) many _ hrr (decide_eq_false h1) (decide_eq_false h2) hsp rfl h5, resX _ _ _⟩
                · have hsn := spans_ne hr hn
                  rw [made_ne hsn] at hsp
                  have hlen : (((rowsS (spansI l)).length : Nat) : Int) = ((spansI l).length : Nat) := by simp [rowsS]
                  by_cases h3 : (spansI l).length > 7
                  · rw [if_pos h3]
                    exact ⟨_, _, _, ros_c f (evRows l) many _ _ hrr (decide_eq_false h1) (decide_eq_false h2) hsp hlen (decide_eq_true (by omega)), rfl⟩
                  · rw [if_neg h3, made_X]
                    have hbl : (begI l).length = (spansI l).length := by unfold begI; simp
                    have hsl : (sortL [] (begI l)).length = (begI l).length := by rw [sortL_len]; simp
                    have hbn : sortL [] (begI l) ≠ [] := fun e => by
                      rw [e] at hsl
                      have := List.length_pos_iff.2 hsn
                      simp at hsl
                      omega
                    have h4 : sortedSpec [.one (.sl 4 false (rowsS (spansI l)))] = some [.one (.sl 2 false (rowsP (sortL [] (begI l))))] := by
                      have e1 : allSome s4I (rowsS (spansI l)) = some (spansI l) := allSome_map (f := s4I) (g := rowS) (fun _ => rfl) _
                      have e2 : dvP (sortL [] ((spansI l).map callS)) = .sl 2 false (rowsP (sortL [] (begI l))) := if_neg hbn
                      simp only [sortedSpec, e1]
                      rw [if_pos (by omega), e2]
                    obtain ⟨k, rfl⟩ : ∃ k : Nat, many = k := ⟨many.toNat, by omega⟩
                    have h5 : allSpec 7 [.one (.sl 7 f (evRows l)), .one (.sl 2 false (rowsP (sortL [] (begI l)))), nilPV, nilPV, .one (di (k : Nat))] = some [.one (dvX (told k [] (everyL (metL 0 l []) (sortL [] (begI l)) 7 [])).1)] :=
                      allSpec_at (o := []) (O := []) hr hb (by omega) (fun c hc => (mem_beg hr c).1 (by rw [mem_sortL] at hc; simpa using hc)) List.nodup_nil (by simp) (by simp; omega) (by omega) (by simp)
                    have e4 : (told k [] (ordL l)).1 = (ordL l).take ((k : Nat) : Int).toNat := by simp [told]
                    rw [← e4]
                    exact ⟨_, _, _, ros_d f (evRows l) _ _ _ _ _ hrr (decide_eq_false h1) (decide_eq_false h2) hsp hlen (decide_eq_false (by omega)) h4 h5, resX _ _ _⟩
      · cases hs
    · cases hs
  · cases hs
theorem hP15 : PrimOK C15 := primOK_cons hP13 rfl (by decide) (refOrders_sat.ctx rfl rfl) rfl rfl rfl (by kernel_rfl)
def lawOrdersSpec : Spec
  | [p, q, .one (.v (.int .i64 most))] => match bytesOf p, evtsOf q with
    | some u, some l => some [pbool true]
    | _, _ => none
  | _ => none
/-- what two texts of Orders answer alike is the same -/
theorem same_X (O : List (List (Int × Int))) (h : O.length < 2 ^ 40 ∧ ∀ o ∈ O, o.length < 2 ^ 40) : freezeAll {} [.d (dvX O), .d (dvX O)] = some ([.one (dvX O), .one (dvX O)], {}) ∧ rowsEqSpec [.one (dvX O), .one (dvX O)] = some [pbool true] := by
  refine ⟨by unfold dvX; split <;> rfl, ?_⟩
  have e : ordsOf (.one (dvX O)) = some O := by
    unfold dvX
    split
    · rename_i h; subst h; rfl
    · have e1 : allSome ordRow (rowsO O) = some O := by unfold rowsO; exact allSome_map (g := fun o : List (Int × Int) => [dvO o]) (f := ordRow) (fun o => dvO_calls o) O
      show (match sliceOf 1 (.one (.sl 1 false (rowsO O))) with | some rows => allSome ordRow rows | none => none) = some O
      have e2 : sliceOf 1 (.one (.sl 1 false (rowsO O))) = some (rowsO O) := rfl
      rw [e2]; exact e1
  simp only [rowsEqSpec, e]
  rw [if_pos h]; simp
theorem ev_len (m : MapE) (L : List (Int × Int)) : ∀ (n : Nat) (o x : List (Int × Int)), x ∈ everyL m L n o → x.length ≤ o.length + n
  | 0, o, x, hx => by
    simp only [everyL, selfL] at hx
    split at hx
    · simp at hx; subst hx; omega
    · simp at hx
  | n + 1, o, x, hx => by
    simp only [everyL] at hx
    rcases List.mem_append.1 hx with hx | hx
    · simp only [selfL] at hx
      split at hx
      · simp at hx; subst hx; omega
      · simp at hx
    · obtain ⟨c, _, hc⟩ := List.mem_flatMap.1 hx
      unfold tryC at hc
      split at hc
      · simp at hc
      · split at hc
        · simp at hc
        · have := ev_len m L n _ x hc
          simp at this
          omega
theorem orders_X (l : List Evt) (most : Int) : ∃ (O : List (List (Int × Int))) (n : Int), ordersR l most = [.one (dvX O), pint n] ∧ O.length < 2 ^ 40 ∧ ∀ o ∈ O, o.length < 2 ^ 40 := by
  unfold ordersR
  split
  · exact ⟨[], 4, rfl, by simp, by simp⟩
  · split
    · exact ⟨[], 1, rfl, by simp, by simp⟩
    · rename_i hm
      split
      · exact ⟨[], 2, rfl, by simp, by simp⟩
      · refine ⟨_, 0, by rw [made_X], ?_, fun o ho => ?_⟩
        · rw [List.length_take]; omega
        · have := ev_len _ _ _ _ _ (List.mem_of_mem_take ho)
          simp at this
          omega
theorem lawOrders_sat : Sat C15 5 lawOrdersSpec := by
  refine sat_of_ev (O := noO) hP15 (fun _ _ h => h.elim) hm0 fun ps rs hs => ?_
  unfold lawOrdersSpec at hs
  split at hs
  · rename_i p q most
    split at hs
    · rename_i _ _ u l hu hl
      simp only [Option.some.injEq] at hs
      subst hs
      obtain ⟨hU, hc⟩ := bytesOf_cases hu
      have hbl : ∀ {f : Bool} {l : List Evt}, (((evRows l).length : Nat) : Int) = (l.length : Nat) := by intro f l; simp [evRows]
      have os : ∀ {p : PV} {l : List Evt}, evtsOf p = some l → l.length < 2 ^ 40 → ordersSpec [p, .one (di most)] = some (ordersR l most) := fun h hb => by simp only [ordersSpec, di, h, hb, if_true]
      have hz : ∀ x : Int, (x == x) = true := fun x => by simp
      obtain ⟨Oc, nc, c1, c2, c3⟩ := orders_X l most
      by_cases hml : most > 60 ∧ most ≤ 1000
      · have g1 := decide_eq_true hml.1
        have g2 := decide_eq_true hml.2
        rcases evtsOf_cases hl with ⟨rfl, rfl⟩ | ⟨f, rfl⟩
        · rcases hc with ⟨rfl, rfl⟩ | ⟨fu, rfl⟩
          · exact ⟨_, _, _, plnn_most most 0 g1 g2, rfl⟩
          · exact ⟨_, _, _, plsn_most fu _ most 0 g1 g2, rfl⟩
        · by_cases h60 : l.length > 60
          · rcases hc with ⟨rfl, rfl⟩ | ⟨fu, rfl⟩
            · exact ⟨_, _, _, plns_long f _ most _ (hbl (f := f)) (decide_eq_true (by omega)), rfl⟩
            · exact ⟨_, _, _, plss_long fu _ f _ most _ (hbl (f := f)) (decide_eq_true (by omega)), rfl⟩
          · rcases hc with ⟨rfl, rfl⟩ | ⟨fu, rfl⟩
            · exact ⟨_, _, _, plns_most f _ most _ (hbl (f := f)) (decide_eq_false (by omega)) g1 g2, rfl⟩
            · exact ⟨_, _, _, plss_most fu _ f _ most _ (hbl (f := f)) (decide_eq_false (by omega)) g1 g2, rfl⟩
      · rcases hc with ⟨rfl, rfl⟩ | ⟨fu, rfl⟩
        · -- no bytes: no past by numbers
          have ha := os (p := .one (.v (.slice none 0 0))) (l := []) rfl (by simp)
          obtain ⟨Oa, na, a1, a2, a3⟩ := orders_X [] most
          rw [a1] at ha
          have hsa := same_X Oa ⟨a2, a3⟩
          have hsc := same_X Oc ⟨c2, c3⟩
          rcases evtsOf_cases hl with ⟨rfl, rfl⟩ | ⟨f, rfl⟩
          · have hcc := os (p := .one (.v (.slice none 0 0))) (l := []) rfl (by simp)
            rw [c1] at hcc
            by_cases g1 : most > 60
            · exact ⟨_, _, _, plnnn1 most 0 _ _ _ _ (decide_eq_true g1) (decide_eq_false (by omega)) rfl ha hcc hsa (hz _) hsc (hz _), rfl⟩
            · exact ⟨_, _, _, plnnn0 most 0 _ _ _ _ (decide_eq_false g1) rfl ha hcc hsa (hz _) hsc (hz _), rfl⟩
          · by_cases h60 : l.length > 60
            · exact ⟨_, _, _, plns_long f _ most _ (hbl (f := f)) (decide_eq_true (by omega)), rfl⟩
            · have hcc := os hl (by omega)
              rw [c1] at hcc
              by_cases g1 : most > 60
              · exact ⟨_, _, _, plnsn1 f _ most _ _ _ _ _ (hbl (f := f)) (decide_eq_false (by omega)) (decide_eq_true g1) (decide_eq_false (by omega)) rfl ha hcc hsa (hz _) hsc (hz _), rfl⟩
              · exact ⟨_, _, _, plnsn0 f _ most _ _ _ _ _ (hbl (f := f)) (decide_eq_false (by omega)) (decide_eq_false g1) rfl ha hcc hsa (hz _) hsc (hz _), rfl⟩
        · have hmd := made_at (f := fu) 10 hU (by decide)
          have hEl : (madeI 10 u).length < 2 ^ 40 := by
            have : madeI 10 u = madeL (fun _ => 0) (u.take 10) := rfl
            rw [this, made_len, List.length_take]; omega
          obtain ⟨Oa, na, a1, a2, a3⟩ := orders_X (madeI 10 u) most
          have hsa := same_X Oa ⟨a2, a3⟩
          have hsc := same_X Oc ⟨c2, c3⟩
          by_cases hn : madeI 10 u = []
          · rw [hn] at hmd a1
            have ha := os (p := .one (.v (.slice none 0 0))) (l := []) rfl (by simp)
            rw [a1] at ha
            rcases evtsOf_cases hl with ⟨rfl, rfl⟩ | ⟨f, rfl⟩
            · have hcc := os (p := .one (.v (.slice none 0 0))) (l := []) rfl (by simp)
              rw [c1] at hcc
              by_cases g1 : most > 60
              · exact ⟨_, _, _, plsnn1 fu _ most 0 _ _ _ _ (decide_eq_true g1) (decide_eq_false (by omega)) hmd ha hcc hsa (hz _) hsc (hz _), rfl⟩
              · exact ⟨_, _, _, plsnn0 fu _ most 0 _ _ _ _ (decide_eq_false g1) hmd ha hcc hsa (hz _) hsc (hz _), rfl⟩
            · by_cases h60 : l.length > 60
              · exact ⟨_, _, _, plss_long fu _ f _ most _ (hbl (f := f)) (decide_eq_true (by omega)), rfl⟩
              · have hcc := os hl (by omega)
                rw [c1] at hcc
                by_cases g1 : most > 60
                · exact ⟨_, _, _, plssn1 fu _ f _ most _ _ _ _ _ (hbl (f := f)) (decide_eq_false (by omega)) (decide_eq_true g1) (decide_eq_false (by omega)) hmd ha hcc hsa (hz _) hsc (hz _), rfl⟩
                · exact ⟨_, _, _, plssn0 fu _ f _ most _ _ _ _ _ (hbl (f := f)) (decide_eq_false (by omega)) (decide_eq_false g1) hmd ha hcc hsa (hz _) hsc (hz _), rfl⟩
          · have e1 : madePV 7 (evRows (madeI 10 u)) = .one (.sl 7 false (evRows (madeI 10 u))) := by
              unfold madePV
              rw [if_neg (by simpa [evRows] using hn)]
            rw [e1] at hmd
            have ha := os (p := .one (.sl 7 false (evRows (madeI 10 u)))) (evtsOf_sl _ _) hEl
            rw [a1] at ha
            rcases evtsOf_cases hl with ⟨rfl, rfl⟩ | ⟨f, rfl⟩
            · have hcc := os (p := .one (.v (.slice none 0 0))) (l := []) rfl (by simp)
              rw [c1] at hcc
              by_cases g1 : most > 60
              · exact ⟨_, _, _, plsns1 fu _ _ most 0 _ _ _ _ (decide_eq_true g1) (decide_eq_false (by omega)) hmd ha hcc hsa (hz _) hsc (hz _), rfl⟩
              · exact ⟨_, _, _, plsns0 fu _ _ most 0 _ _ _ _ (decide_eq_false g1) hmd ha hcc hsa (hz _) hsc (hz _), rfl⟩
            · by_cases h60 : l.length > 60
              · exact ⟨_, _, _, plss_long fu _ f _ most _ (hbl (f := f)) (decide_eq_true (by omega)), rfl⟩
              · have hcc := os hl (by omega)
                rw [c1] at hcc
                by_cases g1 : most > 60
                · exact ⟨_, _, _, plsss1 fu _ f _ _ most _ _ _ _ _ (hbl (f := f)) (decide_eq_false (by omega)) (decide_eq_true g1) (decide_eq_false (by omega)) hmd ha hcc hsa (hz _) hsc (hz _), rfl⟩
                · exact ⟨_, _, _, plsss0 fu _ f _ _ most _ _ _ _ _ (hbl (f := f)) (decide_eq_false (by omega)) (decide_eq_false g1) hmd ha hcc hsa (hz _) hsc (hz _), rfl⟩
    · cases hs
  · cases hs

end Go.Ev

namespace Go.Proofs.Ytgpdnahmgacffaa
open Go Go.Ev Go.RowKit Go.ChangeShapes Go.WideShapes Go.ChangeAt

theorem undInt : Try.prog.underlying 3 = some (.int .i64) := by kernel_rfl
set_option maxRecDepth 100000 in
theorem orders_lifted (os : Os) (started : os.Started) (H : Type) (enc : TypeId × Value → H) :
    ReturnsInHanded {} Try.checked os 5 .any (Rows.pastOrdersSpec.pre6 enc Try.prog Try.f5 Rows.pastOrdersRow.domain false) (Rows.pastOrdersSpec.post enc Try.prog Try.f5 false true false false) := by
  refine returnsInHanded_of_change (C := Try.checked) own started (by kernel_rfl) Try.func5
    (ChangeSpec.witness6 (enc := enc) (C := Try.checked) false ⟨#[], #[.slice none 0 0, .slice none 0 0, .int .i64 0], []⟩ 8 (by kernel_rfl) (by kernel_rfl) (by kernel_rfl) (by kernel_rfl)) ?_
  intro W base args ds gs before hval0 hW hcnd0 _
  have hval : ∀ (j : Nat) t v, Try.f5.params[j]? = some t → args[j]? = some v → Value.okWide Try.prog W .any base t v := hval0
  have hW' := hW
  obtain ⟨p, q, hA0, hV, rfl, hfz, hnd⟩ := hW
  have hA : DataW.TrodAll enc Try.prog W 0 (fun _ => true) true Try.f5.params.toList args.toList ds p := hA0
  rw [Try.params5] at hA hval
  obtain ⟨v0, v1, v2, d0, d1, d2, p0, p1, p2, rfl, rfl, rfl, h0, h1, h2⟩ := trodAll_three hA
  obtain ⟨rfl, rfl⟩ := trodVars_none hV
  clear hA0 hval0
  obtain ⟨q0, u, r0, e0⟩ := rp_bytes (hval 0 36 v0 rfl rfl) h0
  obtain ⟨q1, l, r1, e1⟩ := rp_evts (hval 1 22 v1 rfl rfl) h1
  obtain ⟨m, rfl, _, _, hw⟩ := open_int undInt (hval 2 3 v2 rfl rfl) h2
  have r2 : RP (FW W) W (.one (.v (.int .i64 m))) (.int .i64 m) := .one _ _ (.v _ rfl)
  refine calls_true (C := C15) (f := Try.f5) (ps := [q0, q1, .one (.v (.int .i64 m))]) rfl (fun _ => rfl) lawOrders_sat ?_ rfl hW' rfl rfl rfl rfl ⟨rfl, fun i p v hp hv => ?_⟩ (by simp only [lawOrdersSpec, e0, e1])
  · have h : (Try.f5.params.toList.all fun t => decide (t < Try.prog.types.size)) = true := by kernel_rfl
    intro t ht
    rw [List.all_eq_true] at h
    simpa using h t ht
  · match i, hp, hv with
    | 0, hp, hv => simp at hp hv; subst hp; subst hv; exact r0
    | 1, hp, hv => simp at hp hv; subst hp; subst hv; exact r1
    | 2, hp, hv => simp at hp hv; subst hp; subst hv; exact r2
    | j + 3, hp, hv => simp at hp

theorem orders_holds : Rows.PastOrdersSaid :=
  OpenClaim.holds_of_wide 5 Try.f5 rfl rfl rfl rfl rfl rfl rfl ⟨rfl, rfl, rfl, rfl, rfl⟩ rfl rfl rfl rfl rfl (by kernel_rfl) Try.func5 (by kernel_rfl)
    (of_decide_eq_true (by kernel_rfl)) (by unfold Func.isWrapper; first | (rw [if_pos (by decide +kernel)]; kernel_rfl) | (rw [if_neg (by decide +kernel)]; exact ⟨rfl, rfl⟩))
    (fun os started H enc _ => orders_lifted os started H enc)

end Go.Proofs.Ytgpdnahmgacffaa
