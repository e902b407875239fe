/- What the proof of this claim needs: part MH. No conditions. -/
import Derived.Test.YtbgdnghnfdijnaaGreatDoorMG
import Derived.Test.YtbgdnghnfdijnaaGreatDoorMC
set_option linter.unusedVariables false
set_option linter.unusedSimpArgs false
namespace Go.Ev
open Go Go.RowKit Go.Proofs
theorem md1_exit (wd tk qr lr sr bw : A8) (a : AV) (t : AC) (i : Int) : symM CMo Ab 60 14 false (BE Tryz.prog 14 0) (md1 wd tk qr lr sr bw a t i) [(A1 14 19, .b false)] [1, 2] = some ((.exit 0, md1O wd tk qr lr sr bw a t), [], [decide (i < (tk.length : Int)) = false]) := by kernel_rfl
theorem md1n_0 (wd tk qr lr sr bw : A8) (i i' n m l : Int) (p : Pla) (y : Itm) (X : X) (st : St) : AY CMo Ab 60 (.code 14 false (BE Tryz.prog 14 0) (md1 wd tk qr lr sr bw (.d dnil) [] i)) [(A1 14 19, .b true), (A1 14 21, .row [di n, du m, di l]), (A1 14 25, .prim [.agg p.cs]), (A1 14 40, .prim [.ifc 120 p.cs]), (A1 14 42, .prim [.agg y.cs]), (A1 14 44, .app false), (A1 14 46, .int i'), (A1 14 8002, .drop [A1 14 5, A1 14 6, A1 14 7] [1, 2, 16, 17, 18]), (A1 14 8001, .loop [1, 2, 16, 17, 18] X st)] = some (.code X st, [], [decide (i < (tk.length : Int)) = true, 0 ≤ i ∧ tk[i.toNat]? = some [di n, du m, di l], atS [.agg (AM wd tk qr lr sr bw), A5 i] = some [.agg p.cs], meS [.agg p.cs] = some [.ifc 120 p.cs], itS (it0) [.agg p.cs, .agg (itC 0 p.c p.g n m 0 0)] = some [.agg y.cs], false = false ∧ Am 0 1 56, IntKind.wrap .i64 (i + 1) = i', true = true, true = true, true = true, Ev CMo Ab (.code 14 false (BE Tryz.prog 14 0) (md1 wd tk qr lr sr bw (.st 7 [y.cs] (A1 14 44) 1) [(A1 14 44, 1)] i')) (.code X st)]) := by kernel_rfl
theorem md1s_0 (wd tk qr lr sr bw : A8) (rows : A8) (g : Nat) (i i' n m l : Int) (p : Pla) (y : Itm) (X : X) (st : St) : AY CMo Ab 60 (.code 14 false (BE Tryz.prog 14 0) (md1 wd tk qr lr sr bw (.st 7 rows (A1 14 44) g) [(A1 14 44, g)] i)) [(A1 14 19, .b true), (A1 14 21, .row [di n, du m, di l]), (A1 14 25, .prim [.agg p.cs]), (A1 14 40, .prim [.ifc 120 p.cs]), (A1 14 42, .prim [.agg y.cs]), (A1 14 44, .app false), (A1 14 46, .int i'), (A1 14 8002, .drop [A1 14 5, A1 14 6, A1 14 7] [1, 2, 16, 17, 18]), (A1 14 8001, .loop [1, 2, 16, 17, 18] X st)] = some (.code X st, [], [decide (i < (tk.length : Int)) = true, 0 ≤ i ∧ tk[i.toNat]? = some [di n, du m, di l], atS [.agg (AM wd tk qr lr sr bw), A5 i] = some [.agg p.cs], meS [.agg p.cs] = some [.ifc 120 p.cs], itS (it0) [.agg p.cs, .agg (itC 0 p.c p.g n m 0 0)] = some [.agg y.cs], false = false ∧ g = g ∧ Am rows.length 1 56, IntKind.wrap .i64 (i + 1) = i', true = true, true = true, true = true, Ev CMo Ab (.code 14 false (BE Tryz.prog 14 0) (md1 wd tk qr lr sr bw (.st 7 (rows ++ [y.cs]) (A1 14 44) (g + 1 + 1)) [(A1 14 44, g + 1 + 1)] i')) (.code X st)]) := by kernel_rfl
theorem md1n_1 (wd tk qr lr sr bw : A8) (i i' n m l : Int) (p : Pla) (y : Itm) (X : X) (st : St) : AY CMo Ab 60 (.code 14 false (BE Tryz.prog 14 0) (md1 wd tk qr lr sr bw (.d dnil) [] i)) [(A1 14 19, .b true), (A1 14 21, .row [di n, du m, di l]), (A1 14 25, .prim [.agg p.cs]), (A1 14 40, .prim [.ifc 166 p.cs]), (A1 14 42, .prim [.agg y.cs]), (A1 14 44, .app false), (A1 14 46, .int i'), (A1 14 8002, .drop [A1 14 5, A1 14 6, A1 14 7] [1, 2, 16, 17, 18]), (A1 14 8001, .loop [1, 2, 16, 17, 18] X st)] = some (.code X st, [], [decide (i < (tk.length : Int)) = true, 0 ≤ i ∧ tk[i.toNat]? = some [di n, du m, di l], atS [.agg (AM wd tk qr lr sr bw), A5 i] = some [.agg p.cs], meS [.agg p.cs] = some [.ifc 166 p.cs], itS (itK 1) [.agg p.cs, .agg (itC 0 p.c p.g n m 0 0)] = some [.agg y.cs], false = false ∧ Am 0 1 56, IntKind.wrap .i64 (i + 1) = i', true = true, true = true, true = true, Ev CMo Ab (.code 14 false (BE Tryz.prog 14 0) (md1 wd tk qr lr sr bw (.st 7 [y.cs] (A1 14 44) 1) [(A1 14 44, 1)] i')) (.code X st)]) := by kernel_rfl
theorem md1s_1 (wd tk qr lr sr bw : A8) (rows : A8) (g : Nat) (i i' n m l : Int) (p : Pla) (y : Itm) (X : X) (st : St) : AY CMo Ab 60 (.code 14 false (BE Tryz.prog 14 0) (md1 wd tk qr lr sr bw (.st 7 rows (A1 14 44) g) [(A1 14 44, g)] i)) [(A1 14 19, .b true), (A1 14 21, .row [di n, du m, di l]), (A1 14 25, .prim [.agg p.cs]), (A1 14 40, .prim [.ifc 166 p.cs]), (A1 14 42, .prim [.agg y.cs]), (A1 14 44, .app false), (A1 14 46, .int i'), (A1 14 8002, .drop [A1 14 5, A1 14 6, A1 14 7] [1, 2, 16, 17, 18]), (A1 14 8001, .loop [1, 2, 16, 17, 18] X st)] = some (.code X st, [], [decide (i < (tk.length : Int)) = true, 0 ≤ i ∧ tk[i.toNat]? = some [di n, du m, di l], atS [.agg (AM wd tk qr lr sr bw), A5 i] = some [.agg p.cs], meS [.agg p.cs] = some [.ifc 166 p.cs], itS (itK 1) [.agg p.cs, .agg (itC 0 p.c p.g n m 0 0)] = some [.agg y.cs], false = false ∧ g = g ∧ Am rows.length 1 56, IntKind.wrap .i64 (i + 1) = i', true = true, true = true, true = true, Ev CMo Ab (.code 14 false (BE Tryz.prog 14 0) (md1 wd tk qr lr sr bw (.st 7 (rows ++ [y.cs]) (A1 14 44) (g + 1 + 1)) [(A1 14 44, g + 1 + 1)] i')) (.code X st)]) := by kernel_rfl
theorem md1n_3 (wd tk qr lr sr bw : A8) (i i' n m l : Int) (p : Pla) (y : Itm) (X : X) (st : St) : AY CMo Ab 60 (.code 14 false (BE Tryz.prog 14 0) (md1 wd tk qr lr sr bw (.d dnil) [] i)) [(A1 14 19, .b true), (A1 14 21, .row [di n, du m, di l]), (A1 14 25, .prim [.agg p.cs]), (A1 14 40, .prim [.ifc 165 p.cs]), (A1 14 42, .prim [.agg y.cs]), (A1 14 44, .app false), (A1 14 46, .int i'), (A1 14 8002, .drop [A1 14 5, A1 14 6, A1 14 7] [1, 2, 16, 17, 18]), (A1 14 8001, .loop [1, 2, 16, 17, 18] X st)] = some (.code X st, [], [decide (i < (tk.length : Int)) = true, 0 ≤ i ∧ tk[i.toNat]? = some [di n, du m, di l], atS [.agg (AM wd tk qr lr sr bw), A5 i] = some [.agg p.cs], meS [.agg p.cs] = some [.ifc 165 p.cs], itS (itK 3) [.agg p.cs, .agg (itC 0 p.c p.g n m 0 0)] = some [.agg y.cs], false = false ∧ Am 0 1 56, IntKind.wrap .i64 (i + 1) = i', true = true, true = true, true = true, Ev CMo Ab (.code 14 false (BE Tryz.prog 14 0) (md1 wd tk qr lr sr bw (.st 7 [y.cs] (A1 14 44) 1) [(A1 14 44, 1)] i')) (.code X st)]) := by kernel_rfl
theorem md1s_3 (wd tk qr lr sr bw : A8) (rows : A8) (g : Nat) (i i' n m l : Int) (p : Pla) (y : Itm) (X : X) (st : St) : AY CMo Ab 60 (.code 14 false (BE Tryz.prog 14 0) (md1 wd tk qr lr sr bw (.st 7 rows (A1 14 44) g) [(A1 14 44, g)] i)) [(A1 14 19, .b true), (A1 14 21, .row [di n, du m, di l]), (A1 14 25, .prim [.agg p.cs]), (A1 14 40, .prim [.ifc 165 p.cs]), (A1 14 42, .prim [.agg y.cs]), (A1 14 44, .app false), (A1 14 46, .int i'), (A1 14 8002, .drop [A1 14 5, A1 14 6, A1 14 7] [1, 2, 16, 17, 18]), (A1 14 8001, .loop [1, 2, 16, 17, 18] X st)] = some (.code X st, [], [decide (i < (tk.length : Int)) = true, 0 ≤ i ∧ tk[i.toNat]? = some [di n, du m, di l], atS [.agg (AM wd tk qr lr sr bw), A5 i] = some [.agg p.cs], meS [.agg p.cs] = some [.ifc 165 p.cs], itS (itK 3) [.agg p.cs, .agg (itC 0 p.c p.g n m 0 0)] = some [.agg y.cs], false = false ∧ g = g ∧ Am rows.length 1 56, IntKind.wrap .i64 (i + 1) = i', true = true, true = true, true = true, Ev CMo Ab (.code 14 false (BE Tryz.prog 14 0) (md1 wd tk qr lr sr bw (.st 7 (rows ++ [y.cs]) (A1 14 44) (g + 1 + 1)) [(A1 14 44, g + 1 + 1)] i')) (.code X st)]) := by kernel_rfl
theorem md1n_4 (wd tk qr lr sr bw : A8) (i i' n m l : Int) (p : Pla) (y : Itm) (X : X) (st : St) : AY CMo Ab 60 (.code 14 false (BE Tryz.prog 14 0) (md1 wd tk qr lr sr bw (.d dnil) [] i)) [(A1 14 19, .b true), (A1 14 21, .row [di n, du m, di l]), (A1 14 25, .prim [.agg p.cs]), (A1 14 40, .prim [.ifc 162 p.cs]), (A1 14 42, .prim [.agg y.cs]), (A1 14 44, .app false), (A1 14 46, .int i'), (A1 14 8002, .drop [A1 14 5, A1 14 6, A1 14 7] [1, 2, 16, 17, 18]), (A1 14 8001, .loop [1, 2, 16, 17, 18] X st)] = some (.code X st, [], [decide (i < (tk.length : Int)) = true, 0 ≤ i ∧ tk[i.toNat]? = some [di n, du m, di l], atS [.agg (AM wd tk qr lr sr bw), A5 i] = some [.agg p.cs], meS [.agg p.cs] = some [.ifc 162 p.cs], itS (it4) [.agg p.cs, .agg (itC 0 p.c p.g n m 0 0)] = some [.agg y.cs], false = false ∧ Am 0 1 56, IntKind.wrap .i64 (i + 1) = i', true = true, true = true, true = true, Ev CMo Ab (.code 14 false (BE Tryz.prog 14 0) (md1 wd tk qr lr sr bw (.st 7 [y.cs] (A1 14 44) 1) [(A1 14 44, 1)] i')) (.code X st)]) := by kernel_rfl
theorem md1s_4 (wd tk qr lr sr bw : A8) (rows : A8) (g : Nat) (i i' n m l : Int) (p : Pla) (y : Itm) (X : X) (st : St) : AY CMo Ab 60 (.code 14 false (BE Tryz.prog 14 0) (md1 wd tk qr lr sr bw (.st 7 rows (A1 14 44) g) [(A1 14 44, g)] i)) [(A1 14 19, .b true), (A1 14 21, .row [di n, du m, di l]), (A1 14 25, .prim [.agg p.cs]), (A1 14 40, .prim [.ifc 162 p.cs]), (A1 14 42, .prim [.agg y.cs]), (A1 14 44, .app false), (A1 14 46, .int i'), (A1 14 8002, .drop [A1 14 5, A1 14 6, A1 14 7] [1, 2, 16, 17, 18]), (A1 14 8001, .loop [1, 2, 16, 17, 18] X st)] = some (.code X st, [], [decide (i < (tk.length : Int)) = true, 0 ≤ i ∧ tk[i.toNat]? = some [di n, du m, di l], atS [.agg (AM wd tk qr lr sr bw), A5 i] = some [.agg p.cs], meS [.agg p.cs] = some [.ifc 162 p.cs], itS (it4) [.agg p.cs, .agg (itC 0 p.c p.g n m 0 0)] = some [.agg y.cs], false = false ∧ g = g ∧ Am rows.length 1 56, IntKind.wrap .i64 (i + 1) = i', true = true, true = true, true = true, Ev CMo Ab (.code 14 false (BE Tryz.prog 14 0) (md1 wd tk qr lr sr bw (.st 7 (rows ++ [y.cs]) (A1 14 44) (g + 1 + 1)) [(A1 14 44, g + 1 + 1)] i')) (.code X st)]) := by kernel_rfl
theorem md1n_5 (wd tk qr lr sr bw : A8) (i i' n m l : Int) (p : Pla) (y : Itm) (X : X) (st : St) : AY CMo Ab 60 (.code 14 false (BE Tryz.prog 14 0) (md1 wd tk qr lr sr bw (.d dnil) [] i)) [(A1 14 19, .b true), (A1 14 21, .row [di n, du m, di l]), (A1 14 25, .prim [.agg p.cs]), (A1 14 40, .prim [.ifc 163 p.cs]), (A1 14 42, .prim [.agg y.cs]), (A1 14 44, .app false), (A1 14 46, .int i'), (A1 14 8002, .drop [A1 14 5, A1 14 6, A1 14 7] [1, 2, 16, 17, 18]), (A1 14 8001, .loop [1, 2, 16, 17, 18] X st)] = some (.code X st, [], [decide (i < (tk.length : Int)) = true, 0 ≤ i ∧ tk[i.toNat]? = some [di n, du m, di l], atS [.agg (AM wd tk qr lr sr bw), A5 i] = some [.agg p.cs], meS [.agg p.cs] = some [.ifc 163 p.cs], itS (it5) [.agg p.cs, .agg (itC 0 p.c p.g n m 0 0)] = some [.agg y.cs], false = false ∧ Am 0 1 56, IntKind.wrap .i64 (i + 1) = i', true = true, true = true, true = true, Ev CMo Ab (.code 14 false (BE Tryz.prog 14 0) (md1 wd tk qr lr sr bw (.st 7 [y.cs] (A1 14 44) 1) [(A1 14 44, 1)] i')) (.code X st)]) := by kernel_rfl
theorem md1s_5 (wd tk qr lr sr bw : A8) (rows : A8) (g : Nat) (i i' n m l : Int) (p : Pla) (y : Itm) (X : X) (st : St) : AY CMo Ab 60 (.code 14 false (BE Tryz.prog 14 0) (md1 wd tk qr lr sr bw (.st 7 rows (A1 14 44) g) [(A1 14 44, g)] i)) [(A1 14 19, .b true), (A1 14 21, .row [di n, du m, di l]), (A1 14 25, .prim [.agg p.cs]), (A1 14 40, .prim [.ifc 163 p.cs]), (A1 14 42, .prim [.agg y.cs]), (A1 14 44, .app false), (A1 14 46, .int i'), (A1 14 8002, .drop [A1 14 5, A1 14 6, A1 14 7] [1, 2, 16, 17, 18]), (A1 14 8001, .loop [1, 2, 16, 17, 18] X st)] = some (.code X st, [], [decide (i < (tk.length : Int)) = true, 0 ≤ i ∧ tk[i.toNat]? = some [di n, du m, di l], atS [.agg (AM wd tk qr lr sr bw), A5 i] = some [.agg p.cs], meS [.agg p.cs] = some [.ifc 163 p.cs], itS (it5) [.agg p.cs, .agg (itC 0 p.c p.g n m 0 0)] = some [.agg y.cs], false = false ∧ g = g ∧ Am rows.length 1 56, IntKind.wrap .i64 (i + 1) = i', true = true, true = true, true = true, Ev CMo Ab (.code 14 false (BE Tryz.prog 14 0) (md1 wd tk qr lr sr bw (.st 7 (rows ++ [y.cs]) (A1 14 44) (g + 1 + 1)) [(A1 14 44, g + 1 + 1)] i')) (.code X st)]) := by kernel_rfl
theorem md1n_6 (wd tk qr lr sr bw : A8) (i i' n m l : Int) (p : Pla) (y : Itm) (X : X) (st : St) : AY CMo Ab 60 (.code 14 false (BE Tryz.prog 14 0) (md1 wd tk qr lr sr bw (.d dnil) [] i)) [(A1 14 19, .b true), (A1 14 21, .row [di n, du m, di l]), (A1 14 25, .prim [.agg p.cs]), (A1 14 40, .prim [.ifc 164 p.cs]), (A1 14 42, .prim [.agg y.cs]), (A1 14 44, .app false), (A1 14 46, .int i'), (A1 14 8002, .drop [A1 14 5, A1 14 6, A1 14 7] [1, 2, 16, 17, 18]), (A1 14 8001, .loop [1, 2, 16, 17, 18] X st)] = some (.code X st, [], [decide (i < (tk.length : Int)) = true, 0 ≤ i ∧ tk[i.toNat]? = some [di n, du m, di l], atS [.agg (AM wd tk qr lr sr bw), A5 i] = some [.agg p.cs], meS [.agg p.cs] = some [.ifc 164 p.cs], itS (it6) [.agg p.cs, .agg (itC 0 p.c p.g n m 0 0)] = some [.agg y.cs], false = false ∧ Am 0 1 56, IntKind.wrap .i64 (i + 1) = i', true = true, true = true, true = true, Ev CMo Ab (.code 14 false (BE Tryz.prog 14 0) (md1 wd tk qr lr sr bw (.st 7 [y.cs] (A1 14 44) 1) [(A1 14 44, 1)] i')) (.code X st)]) := by kernel_rfl
theorem md1s_6 (wd tk qr lr sr bw : A8) (rows : A8) (g : Nat) (i i' n m l : Int) (p : Pla) (y : Itm) (X : X) (st : St) : AY CMo Ab 60 (.code 14 false (BE Tryz.prog 14 0) (md1 wd tk qr lr sr bw (.st 7 rows (A1 14 44) g) [(A1 14 44, g)] i)) [(A1 14 19, .b true), (A1 14 21, .row [di n, du m, di l]), (A1 14 25, .prim [.agg p.cs]), (A1 14 40, .prim [.ifc 164 p.cs]), (A1 14 42, .prim [.agg y.cs]), (A1 14 44, .app false), (A1 14 46, .int i'), (A1 14 8002, .drop [A1 14 5, A1 14 6, A1 14 7] [1, 2, 16, 17, 18]), (A1 14 8001, .loop [1, 2, 16, 17, 18] X st)] = some (.code X st, [], [decide (i < (tk.length : Int)) = true, 0 ≤ i ∧ tk[i.toNat]? = some [di n, du m, di l], atS [.agg (AM wd tk qr lr sr bw), A5 i] = some [.agg p.cs], meS [.agg p.cs] = some [.ifc 164 p.cs], itS (it6) [.agg p.cs, .agg (itC 0 p.c p.g n m 0 0)] = some [.agg y.cs], false = false ∧ g = g ∧ Am rows.length 1 56, IntKind.wrap .i64 (i + 1) = i', true = true, true = true, true = true, Ev CMo Ab (.code 14 false (BE Tryz.prog 14 0) (md1 wd tk qr lr sr bw (.st 7 (rows ++ [y.cs]) (A1 14 44) (g + 1 + 1)) [(A1 14 44, g + 1 + 1)] i')) (.code X st)]) := by kernel_rfl
theorem md2_exit (wd tk qr lr sr bw : A8) (a b c : AV) (t : AC) (i : Int) : symM CMo Ab 60 14 false (BE Tryz.prog 14 1) (md2 wd tk qr lr sr bw a b c t i) [(A1 14 51, .b false)] [2] = some ((.exit 2, md2O wd tk qr lr sr bw a b c t), [], [decide (i < (qr.length : Int)) = false]) := by kernel_rfl
theorem md2n_0 (wd tk qr lr sr bw : A8) (i i' : Int) (q : Qr) (hs : A8) (X : X) (st : St) : AY CMo Ab 60 (.code 14 false (BE Tryz.prog 14 1) (md2 wd tk qr lr sr bw (.d dnil) (.d dnil) (.d dnil) [] i)) [(A1 14 51, .b true), (A1 14 53, .row q.cs), (A1 14 60, .app false), (A1 14 66, .row [.mn 2 hs]), (A1 14 68, .prim [.one (.mn 2 hs)]), (A1 14 70, .app false), (A1 14 73, .int i'), (A1 14 8002, .drop [A1 14 9] [1, 2, 48, 49, 50]), (A1 14 8001, .loop [1, 2, 48, 49, 50] X st)] = some (.code X st, [], [decide (i < (qr.length : Int)) = true, 0 ≤ i ∧ qr[i.toNat]? = some q.cs, false = false ∧ Am 0 1 8, 0 ≤ i ∧ sr[i.toNat]? = some [.mn 2 hs], clS [.one (.mn 2 hs)] = some [.one (.mn 2 hs)], false = false ∧ Am 0 1 24, IntKind.wrap .i64 (i + 1) = i', true = true, true = true, true = true, Ev CMo Ab (.code 14 false (BE Tryz.prog 14 1) (md2 wd tk qr lr sr bw (.d dnil) (.st 1 [[du q.m]] (A1 14 60) 1) (.st 1 [[.mn 2 hs]] (A1 14 70) 1) [(A1 14 60, 1), (A1 14 70, 1)] i')) (.code X st)]) := by kernel_rfl
theorem md2s_0 (wd tk qr lr sr bw : A8) (r2 r3 : A8) (g2 g3 : Nat) (i i' : Int) (q : Qr) (hs : A8) (X : X) (st : St) : AY CMo Ab 60 (.code 14 false (BE Tryz.prog 14 1) (md2 wd tk qr lr sr bw (.d dnil) (.st 1 r2 (A1 14 60) g2) (.st 1 r3 (A1 14 70) g3) [(A1 14 60, g2), (A1 14 70, g3)] i)) [(A1 14 51, .b true), (A1 14 53, .row q.cs), (A1 14 60, .app false), (A1 14 66, .row [.mn 2 hs]), (A1 14 68, .prim [.one (.mn 2 hs)]), (A1 14 70, .app false), (A1 14 73, .int i'), (A1 14 8002, .drop [A1 14 9] [1, 2, 48, 49, 50]), (A1 14 8001, .loop [1, 2, 48, 49, 50] X st)] = some (.code X st, [], [decide (i < (qr.length : Int)) = true, 0 ≤ i ∧ qr[i.toNat]? = some q.cs, false = false ∧ g2 = g2 ∧ Am r2.length 1 8, 0 ≤ i ∧ sr[i.toNat]? = some [.mn 2 hs], clS [.one (.mn 2 hs)] = some [.one (.mn 2 hs)], false = false ∧ g3 = g3 ∧ Am r3.length 1 24, IntKind.wrap .i64 (i + 1) = i', true = true, true = true, true = true, Ev CMo Ab (.code 14 false (BE Tryz.prog 14 1) (md2 wd tk qr lr sr bw (.d dnil) (.st 1 (r2 ++ [[du q.m]]) (A1 14 60) (g2 + 1 + 1)) (.st 1 (r3 ++ [[.mn 2 hs]]) (A1 14 70) (g3 + 1 + 1)) [(A1 14 60, g2 + 1 + 1), (A1 14 70, g3 + 1 + 1)] i')) (.code X st)]) := by kernel_rfl
theorem md2n_1 (wd tk qr lr sr bw : A8) (rows : A8) (g : Nat) (i i' : Int) (q : Qr) (hs : A8) (X : X) (st : St) : AY CMo Ab 60 (.code 14 false (BE Tryz.prog 14 1) (md2 wd tk qr lr sr bw (.st 7 rows (A1 14 44) g) (.d dnil) (.d dnil) [(A1 14 44, g)] i)) [(A1 14 51, .b true), (A1 14 53, .row q.cs), (A1 14 60, .app false), (A1 14 66, .row [.mn 2 hs]), (A1 14 68, .prim [.one (.mn 2 hs)]), (A1 14 70, .app false), (A1 14 73, .int i'), (A1 14 8002, .drop [A1 14 9] [1, 2, 48, 49, 50]), (A1 14 8001, .loop [1, 2, 48, 49, 50] X st)] = some (.code X st, [], [decide (i < (qr.length : Int)) = true, 0 ≤ i ∧ qr[i.toNat]? = some q.cs, false = false ∧ Am 0 1 8, 0 ≤ i ∧ sr[i.toNat]? = some [.mn 2 hs], clS [.one (.mn 2 hs)] = some [.one (.mn 2 hs)], false = false ∧ Am 0 1 24, IntKind.wrap .i64 (i + 1) = i', true = true, true = true, true = true, Ev CMo Ab (.code 14 false (BE Tryz.prog 14 1) (md2 wd tk qr lr sr bw (.st 7 rows (A1 14 44) g) (.st 1 [[du q.m]] (A1 14 60) 1) (.st 1 [[.mn 2 hs]] (A1 14 70) 1) [(A1 14 44, g), (A1 14 60, 1), (A1 14 70, 1)] i')) (.code X st)]) := by kernel_rfl
theorem md2s_1 (wd tk qr lr sr bw : A8) (r2 r3 : A8) (g2 g3 : Nat) (rows : A8) (g : Nat) (i i' : Int) (q : Qr) (hs : A8) (X : X) (st : St) : AY CMo Ab 60 (.code 14 false (BE Tryz.prog 14 1) (md2 wd tk qr lr sr bw (.st 7 rows (A1 14 44) g) (.st 1 r2 (A1 14 60) g2) (.st 1 r3 (A1 14 70) g3) [(A1 14 44, g), (A1 14 60, g2), (A1 14 70, g3)] i)) [(A1 14 51, .b true), (A1 14 53, .row q.cs), (A1 14 60, .app false), (A1 14 66, .row [.mn 2 hs]), (A1 14 68, .prim [.one (.mn 2 hs)]), (A1 14 70, .app false), (A1 14 73, .int i'), (A1 14 8002, .drop [A1 14 9] [1, 2, 48, 49, 50]), (A1 14 8001, .loop [1, 2, 48, 49, 50] X st)] = some (.code X st, [], [decide (i < (qr.length : Int)) = true, 0 ≤ i ∧ qr[i.toNat]? = some q.cs, false = false ∧ g2 = g2 ∧ Am r2.length 1 8, 0 ≤ i ∧ sr[i.toNat]? = some [.mn 2 hs], clS [.one (.mn 2 hs)] = some [.one (.mn 2 hs)], false = false ∧ g3 = g3 ∧ Am r3.length 1 24, IntKind.wrap .i64 (i + 1) = i', true = true, true = true, true = true, Ev CMo Ab (.code 14 false (BE Tryz.prog 14 1) (md2 wd tk qr lr sr bw (.st 7 rows (A1 14 44) g) (.st 1 (r2 ++ [[du q.m]]) (A1 14 60) (g2 + 1 + 1)) (.st 1 (r3 ++ [[.mn 2 hs]]) (A1 14 70) (g3 + 1 + 1)) [(A1 14 44, g), (A1 14 60, g2 + 1 + 1), (A1 14 70, g3 + 1 + 1)] i')) (.code X st)]) := by kernel_rfl
theorem mdw_bad (wd tk qr lr sr bw : A8) : Cs CMo Ab 60 14 [.agg (AM wd tk qr lr sr bw)] [(A1 14 11, .prim [A3 false])] = some ([.agg [dnil, dnil, dnil], A5 4], [], [wrS [.agg (AM wd tk qr lr sr bw)] = some [A3 false]]) := by kernel_rfl
theorem mdw_0 (wd tk qr lr sr bw : A8) (r2 r3 : A8) (g2 g3 : Nat) : Cs CMo Ab 60 14 [.agg (AM wd tk qr lr sr bw)] [(A1 14 11, .prim [A3 true]), (A1 14 8001, .loop [1, 2, 16, 17, 18] (.exit 0) (md1O wd tk qr lr sr bw (.d dnil) [])), (A1 14 8001, .loop [1, 2, 48, 49, 50] (.exit 2) (md2O wd tk qr lr sr bw (.d dnil) (.st 1 r2 (A1 14 60) g2) (.st 1 r3 (A1 14 70) g3) [(A1 14 60, g2), (A1 14 70, g3)]))] = some ([.agg [dnil, .sl 1 false r2, .sl 1 false r3], A5 0], [], [wrS [.agg (AM wd tk qr lr sr bw)] = some [A3 true], Ev CMo Ab (.code 14 false (BE Tryz.prog 14 0) (md1 wd tk qr lr sr bw (.d dnil) [] 0)) (.code (.exit 0) (md1O wd tk qr lr sr bw (.d dnil) [])), Ev CMo Ab (.code 14 false (BE Tryz.prog 14 1) (md2 wd tk qr lr sr bw (.d dnil) (.d dnil) (.d dnil) [] 0)) (.code (.exit 2) (md2O wd tk qr lr sr bw (.d dnil) (.st 1 r2 (A1 14 60) g2) (.st 1 r3 (A1 14 70) g3) [(A1 14 60, g2), (A1 14 70, g3)]))]) := by kernel_rfl
theorem mdw_1 (wd tk qr lr sr bw : A8) (rows : A8) (g : Nat) (r2 r3 : A8) (g2 g3 : Nat) : Cs CMo Ab 60 14 [.agg (AM wd tk qr lr sr bw)] [(A1 14 11, .prim [A3 true]), (A1 14 8001, .loop [1, 2, 16, 17, 18] (.exit 0) (md1O wd tk qr lr sr bw (.st 7 rows (A1 14 44) g) [(A1 14 44, g)])), (A1 14 8001, .loop [1, 2, 48, 49, 50] (.exit 2) (md2O wd tk qr lr sr bw (.st 7 rows (A1 14 44) g) (.st 1 r2 (A1 14 60) g2) (.st 1 r3 (A1 14 70) g3) [(A1 14 44, g), (A1 14 60, g2), (A1 14 70, g3)]))] = some ([.agg [.sl 7 false rows, .sl 1 false r2, .sl 1 false r3], A5 0], [], [wrS [.agg (AM wd tk qr lr sr bw)] = some [A3 true], Ev CMo Ab (.code 14 false (BE Tryz.prog 14 0) (md1 wd tk qr lr sr bw (.d dnil) [] 0)) (.code (.exit 0) (md1O wd tk qr lr sr bw (.st 7 rows (A1 14 44) g) [(A1 14 44, g)])), Ev CMo Ab (.code 14 false (BE Tryz.prog 14 1) (md2 wd tk qr lr sr bw (.st 7 rows (A1 14 44) g) (.d dnil) (.d dnil) [(A1 14 44, g)] 0)) (.code (.exit 2) (md2O wd tk qr lr sr bw (.st 7 rows (A1 14 44) g) (.st 1 r2 (A1 14 60) g2) (.st 1 r3 (A1 14 70) g3) [(A1 14 44, g), (A1 14 60, g2), (A1 14 70, g3)]))]) := by kernel_rfl
def itmB (st : Sta) (t : Tsk) (k v l : Int) : Itm := ⟨k, st.cpu, st.gen, t.nice, t.mask, v, l⟩
def nodV (w : Wld) (i c : Nat) : Int := match w.queues[c]? with
 | some q => match q.ns[i]? with
  | some n => n.v
  | none => 0
 | none => 0
def qvOf (w : Wld) (c : Nat) : Int := match w.queues[c]? with
 | some q => q.v
 | none => 0
def qmOf (w : Wld) (c : Nat) : Int := match w.queues[c]? with
 | some q => q.m
 | none => 0
def itmOf (w : Wld) (i : Nat) (st : Sta) (t : Tsk) : Itm := if (st.kind : Int) = 0 then ⟨0, 0, st.gen, 0, 0, 0, 0⟩ else if (st.kind : Int) = 4 then itmB st t 4 (nodV w i st.cpu) 0 else if (st.kind : Int) = 5 then itmB st t 5 (qvOf w st.cpu) 0
 else if (st.kind : Int) = 6 then itmB st t 4 (atR (qmOf w st.cpu) (mxL t.lag)) 0 else if (st.kind : Int) = 3 then itmB st t 3 0 t.lag else if st.bit = true then itmB st t 3 0 t.lag else if (st.kind : Int) = 2 then (if lsAny w.lists i = true then itmB st t 3 0 t.lag else itmB st t 1 0 t.lag) else itmB st t 1 0 t.lag
def mItm (w : Wld) (i : Nat) : Itm := match w.words[i]?, w.tasks[i]? with
 | some x, some t => itmOf w i (At x) t
 | _, _ => ⟨0, 0, 0, 0, 0, 0, 0⟩
def mIts (w : Wld) : List Itm := (List.range w.words.length).map (mItm w)
def itrows (l : List Itm) : A8 := l.map Itm.cs
def mrows (l : List Que) : A8 := l.map fun q => [du q.m]
structure ItOK (w : Wld) (i x : Nat) (t : Tsk) (q : Que) : Prop where
 hx : w.words[i]? = some x
 ht : w.tasks[i]? = some t
 row : rowOK x t = true
 wo : Ck x = true
 hq : w.queues[(At x).cpu]? = some q
 hn : i < q.ns.length
 hl : ∀ l ∈ w.lists, i < l.next.length
 ll : w.lists.length < 2 ^ 30
structure WR (w : Wld) : Prop where
 n1 : 1 ≤ w.queues.length
 n64 : w.queues.length ≤ 64
 lists : w.lists.length = w.queues.length
 stops : w.stops.length = w.queues.length
 bys : w.bys.length = w.queues.length + 1
 tab : tabOK w.words w.tasks = true
 cpu : cpuA w 0 = true
 snd : sndA w 0 = true
theorem wR_parts {w : Wld} (h : wR w = true) : WR w := by
 unfold wR at h
 simp only [Bool.and_eq_true, Bool.not_eq_true'] at h
 obtain ⟨t1, t2, t3, t4, t5, t6, t7, t8, t9⟩ := h
 exact ⟨by have := of_decide_eq_false t1; omega, by have := of_decide_eq_false t2; omega, by have := bne_eq_false_iff_eq.1 t3; omega, by have := bne_eq_false_iff_eq.1 t4; omega, by have := bne_eq_false_iff_eq.1 t5; omega, t7, t8, t9⟩
theorem WR.sin {w : Wld} (h : WR w) {i : Nat} (hi : i < w.words.length) : SndIn w i := snd_in h.n1 h.n64 h.lists h.stops h.tab h.cpu hi
theorem WR.snR {w : Wld} (h : WR w) {i : Nat} (hi : i < w.words.length) : sndR w i = true := by
 have := h.snd
 unfold sndA at this
 rw [List.drop_zero, List.all_eq_true] at this
 exact this i (List.mem_range.2 hi)
theorem it_ok {w : Wld} {i : Nat} (hin : SndIn w i) (hr : sndR w i = true) : ∃ x t q, ItOK w i x t q := by
 have hwi := hin.wi
 have hti := hin.ti
 have hx := List.getElem?_eq_getElem hin.wi
 have ht := List.getElem?_eq_getElem hin.ti
 have hrow := hin.row _ _ hx ht
 have hwo := hrow
 unfold rowOK at hwo
 rw [Bool.and_eq_true] at hwo
 unfold sndR at hr
 rw [hx, ht] at hr
 simp only [sndC, Bool.and_eq_true] at hr
 have hc : (At w.words[i]).cpu < w.queues.length := of_decide_eq_true hr.1
 obtain ⟨hpl, hqn, hln⟩ := hin.pl
 exact ⟨_, _, _, hx, ht, hrow, hwo.1, List.getElem?_eq_getElem hc, hqn _ (List.getElem_mem hc), hln, by have := hin.n64; omega⟩
def qrOf (q : Que) : Qr := ⟨q.root, A9 q.ns, q.cur, q.v, q.m, q.load, A6 q.ws⟩
theorem ItOK.lag {w : Wld} {i x : Nat} {t : Tsk} {q : Que} (h : ItOK w i x t q) : lagOf (w.pla i x) = some t.lag := by
 have : rdAt tskR (w.pla i x).tk (w.pla i x).i = some t := by
  show rdAt tskR (Aq w.tasks) ((i : Nat) : Int) = some t
  rw [rdAt_of (r := t.cs) (by have := trows_at h.ht; simpa using this)]
  rfl
 unfold lagOf
 rw [this]
theorem ItOK.qu {w : Wld} {i x : Nat} {t : Tsk} {q : Que} (h : ItOK w i x t q) : quOf (w.pla i x) = some (qrOf q) := by
 show rdAt qrP (Ak w.queues) (((At x).cpu : Nat) : Int) = _
 rw [rdAt_of (r := q.cs) (by have := BH h.hq; simpa using this)]
 rfl
theorem ItOK.nd {w : Wld} {i x : Nat} {t : Tsk} {q : Que} (h : ItOK w i x t q) : rdAt ndP (qrOf q).ns (w.pla i x).i = some (nodV w i (At x).cpu) := by
 have hn := List.getElem?_eq_getElem h.hn
 show rdAt ndP (A9 q.ns) ((i : Nat) : Int) = _
 rw [rdAt_of (r := (q.ns[i]'h.hn).cs) (by have := AS hn; simpa using this)]
 simp only [nodV, h.hq, hn]
 rfl
theorem lsOf_at {ls : List Lst} {i : Nat} (hl : ∀ l ∈ ls, i < l.next.length) (h : ls.length < 2 ^ 30) : lsOf (As ls) i = some (lsAny ls i) := by
 have h4 : Ae lstR (As ls) = some ls := Ca fun l _ => by simp only [lstR, Lst.cs, di, Br]
 unfold lsOf
 rw [h4]
 simp only [Int.toNat_natCast]
 rw [if_pos ⟨by omega, h, by rw [List.all_eq_true]; exact fun l hm => decide_eq_true (hl l hm)⟩]
def itX (st : Sta) (t : Tsk) : Itm := ⟨0, st.cpu, st.gen, t.nice, t.mask, 0, 0⟩
theorem ItOK.cases {w : Wld} {i x : Nat} {t : Tsk} {q : Que} (h : ItOK w i x t q) :
  (meT (w.pla i x) = some 120 ∧ it0 (w.pla i x) (itX (At x) t) = some (mItm w i)) ∨ (meT (w.pla i x) = some 166 ∧ itK 1 (w.pla i x) (itX (At x) t) = some (mItm w i)) ∨ (meT (w.pla i x) = some 165 ∧ itK 3 (w.pla i x) (itX (At x) t) = some (mItm w i)) ∨
  (meT (w.pla i x) = some 162 ∧ it4 (w.pla i x) (itX (At x) t) = some (mItm w i)) ∨ (meT (w.pla i x) = some 163 ∧ it5 (w.pla i x) (itX (At x) t) = some (mItm w i)) ∨ (meT (w.pla i x) = some 164 ∧ it6 (w.pla i x) (itX (At x) t) = some (mItm w i)) := by
 have e : mItm w i = itmOf w i (At x) t := by simp only [mItm, h.hx, h.ht]
 have hlag := h.lag
 have hqu := h.qu
 have hnd := h.nd
 have hls : lsOf (w.pla i x).lr (w.pla i x).i = some (lsAny w.lists i) := lsOf_at h.hl h.ll
 have hqv : qvOf w (At x).cpu = q.v := by simp only [qvOf, h.hq]
 have hqm : qmOf w (At x).cpu = q.m := by simp only [qmOf, h.hq]
 have hk : (w.pla i x).k = ((At x).kind : Int) := rfl
 have hb : (w.pla i x).b = (At x).bit := rfl
 rw [e]
 unfold meT itmOf
 rw [hk, hb, hls]
 have k1 : ∀ k, itK k (w.pla i x) (itX (At x) t) = some (itmB (At x) t k 0 t.lag) := fun k => by simp only [itK, hlag]; rfl
 by_cases h0 : ((At x).kind : Int) = 0
 ·exact .inl ⟨by rw [if_pos h0], by rw [if_pos h0]; rfl⟩
 by_cases h4 : ((At x).kind : Int) = 4
 ·exact .inr (.inr (.inr (.inl ⟨by rw [if_neg h0, if_pos h4], by rw [if_neg h0, if_pos h4]; simp only [it4, hqu, hnd]; rfl⟩)))
 by_cases h5 : ((At x).kind : Int) = 5
 ·exact .inr (.inr (.inr (.inr (.inl ⟨by rw [if_neg h0, if_neg h4, if_pos h5], by rw [if_neg h0, if_neg h4, if_pos h5, hqv]; simp only [it5, hqu]; rfl⟩))))
 by_cases h6 : ((At x).kind : Int) = 6
 ·exact .inr (.inr (.inr (.inr (.inr ⟨by rw [if_neg h0, if_neg h4, if_neg h5, if_pos h6], by rw [if_neg h0, if_neg h4, if_neg h5, if_pos h6, hqm]; simp only [it6, hqu, hlag]; rfl⟩))))
 rw [if_neg h0, if_neg h4, if_neg h5, if_neg h6, if_neg h0, if_neg h4, if_neg h5, if_neg h6]
 by_cases h3 : ((At x).kind : Int) = 3
 ·exact .inr (.inr (.inl ⟨by rw [if_pos h3], by rw [if_pos h3]; exact k1 3⟩))
 by_cases hbt : (At x).bit = true
 ·exact .inr (.inr (.inl ⟨by rw [if_neg h3, if_pos hbt], by rw [if_neg h3, if_pos hbt]; exact k1 3⟩))
 rw [if_neg h3, if_neg hbt, if_neg h3, if_neg hbt]
 by_cases h2 : ((At x).kind : Int) = 2
 ·rw [if_pos h2, if_pos h2]
  cases hz : lsAny w.lists i with
  | true => exact .inr (.inr (.inl ⟨rfl, k1 3⟩))
  | false => exact .inr (.inl ⟨rfl, k1 1⟩)
 ·rw [if_neg h2, if_neg h2]
  exact .inr (.inl ⟨rfl, k1 1⟩)
def mdlC (w : Wld) : List DV := if wR w = true then [.mn 7 (itrows (mIts w)), .mn 1 (mrows w.queues), .mn 1 (Ao w.stops)] else [.mn 7 [], .mn 1 [], .mn 1 []]
def errO (w : Wld) : Int := if wR w = true then 0 else 4
def moV : Option Wld → Option (List PV)
 | some w => some [.agg (mdlC w), A5 (errO w)]
 | none => none
noncomputable def moS : Spec
 | [.agg cs] => moV (wldR cs)
 | _ => none
theorem moS_at {w : Wld} (ok : w.Ok) : moS [.agg w.cs] = some [.agg (mdlC w), A5 (errO w)] := by
 show moV (wldR w.cs) = _
 rw [wldR_cs ok]; rfl
theorem mIts_len (w : Wld) : (mIts w).length = w.words.length := by simp [mIts]
theorem Cf {α : Type} {f : α → List DV} {l : List α} {i : Nat} (hi : i < l.length) : (l.take (i + 1)).map f = (l.take i).map f ++ [f l[i]] := by
 rw [List.take_succ_eq_append_getElem hi, List.map_append]; rfl
theorem Ce {α : Type} {f : α → List DV} {l : List α} {i : Nat} (hi : i < l.length) : ∃ r R, (l.take (i + 1)).map f = r :: R := by
 cases h : (l.take (i + 1)).map f with
 | nil =>
  have := congrArg List.length h
  rw [List.length_map, List.length_take] at this
  simp only [List.length_nil] at this
  omega
 | cons r R => exact ⟨r, R, rfl⟩
def itT (w : Wld) (i : Nat) : A8 := ((mIts w).take i).map Itm.cs
theorem mo_l1 (w : Wld) (ok : w.Ok) (hw : WR w) : ∀ (d i : Nat), i + d = w.words.length → Ev CMo Ab (.code 14 false (BE Tryz.prog 14 0) (md1 (An w.words) (Aq w.tasks) (Ak w.queues) (As w.lists) (Ao w.stops) (A6 w.bys) (apR 7 (A1 14 44) (itT w i)) (Ct (A1 14 44) (itT w i)) i)) (.code (.exit 0) (md1O (An w.words) (Aq w.tasks) (Ak w.queues) (As w.lists) (Ao w.stops) (A6 w.bys) (apR 7 (A1 14 44) (itT w w.words.length)) (Ct (A1 14 44) (itT w w.words.length))))
 | 0, i, h => by
  obtain rfl : i = w.words.length := by omega
  have ht := (tab_rows hw.tab).2.1
  exact Ac (md1_exit (An w.words) (Aq w.tasks) (Ak w.queues) (As w.lists) (Ao w.stops) (A6 w.bys) _ _ _) (A0 (by rw [trows_len]; exact dge (by omega)) A2)
 | d + 1, i, h => by
  have hi : i < w.words.length := by omega
  have hnw := ok.nw
  have htl := (tab_rows hw.tab).2.1
  have ih := mo_l1 w ok hw d (i + 1) (by omega)
  obtain ⟨x, t, q, hk⟩ := it_ok (hw.sin hi) (hw.snR hi)
  have b0 : decide ((i : Int) < ((Aq w.tasks).length : Int)) = true := by rw [trows_len]; exact dlt (by omega)
  have hrt : 0 ≤ (i : Int) ∧ (Aq w.tasks)[((i : Int)).toNat]? = some [di t.nice, du t.mask, di t.lag] := ⟨by omega, trows_at hk.ht⟩
  have hat := atS_at ok hk.hx hk.wo
  have wr : IntKind.wrap .i64 ((i : Int) + 1) = ((i + 1 : Nat) : Int) := Ag (by omega)
  have hmi : i < (mIts w).length := by rw [mIts_len]; exact hi
  have e1 : itT w (i + 1) = itT w i ++ [(mItm w i).cs] := by
   unfold itT
   rw [Cf hmi]
   simp [mIts]
  rw [e1] at ih
  cases i with
  | zero =>
   have e0 : itT w 0 = [] := rfl
   rw [e0] at ih ⊢
   have fit : false = false ∧ Am 0 1 56 := ⟨rfl, Av (by decide) (by decide)⟩
   rcases hk.cases with ⟨hm, hf⟩ | ⟨hm, hf⟩ | ⟨hm, hf⟩ | ⟨hm, hf⟩ | ⟨hm, hf⟩ | ⟨hm, hf⟩
   ·exact Aa _ _ _ _ _ _ (md1n_0 (An w.words) (Aq w.tasks) (Ak w.queues) (As w.lists) (Ao w.stops) (A6 w.bys) ((0 : Nat) : Int) ((0 + 1 : Nat) : Int) t.nice t.mask t.lag (w.pla 0 x) (mItm w 0) _ _) (A0 b0 (A0 hrt (A0 hat (A0 (meS_at hm) (A0 (itS_at hf) (A0 fit (A0 wr (A0 rfl (A0 rfl (A0 rfl (A0 ih A2)))))))))))
   ·exact Aa _ _ _ _ _ _ (md1n_1 (An w.words) (Aq w.tasks) (Ak w.queues) (As w.lists) (Ao w.stops) (A6 w.bys) ((0 : Nat) : Int) ((0 + 1 : Nat) : Int) t.nice t.mask t.lag (w.pla 0 x) (mItm w 0) _ _) (A0 b0 (A0 hrt (A0 hat (A0 (meS_at hm) (A0 (itS_at hf) (A0 fit (A0 wr (A0 rfl (A0 rfl (A0 rfl (A0 ih A2)))))))))))
   ·exact Aa _ _ _ _ _ _ (md1n_3 (An w.words) (Aq w.tasks) (Ak w.queues) (As w.lists) (Ao w.stops) (A6 w.bys) ((0 : Nat) : Int) ((0 + 1 : Nat) : Int) t.nice t.mask t.lag (w.pla 0 x) (mItm w 0) _ _) (A0 b0 (A0 hrt (A0 hat (A0 (meS_at hm) (A0 (itS_at hf) (A0 fit (A0 wr (A0 rfl (A0 rfl (A0 rfl (A0 ih A2)))))))))))
   ·exact Aa _ _ _ _ _ _ (md1n_4 (An w.words) (Aq w.tasks) (Ak w.queues) (As w.lists) (Ao w.stops) (A6 w.bys) ((0 : Nat) : Int) ((0 + 1 : Nat) : Int) t.nice t.mask t.lag (w.pla 0 x) (mItm w 0) _ _) (A0 b0 (A0 hrt (A0 hat (A0 (meS_at hm) (A0 (itS_at hf) (A0 fit (A0 wr (A0 rfl (A0 rfl (A0 rfl (A0 ih A2)))))))))))
   ·exact Aa _ _ _ _ _ _ (md1n_5 (An w.words) (Aq w.tasks) (Ak w.queues) (As w.lists) (Ao w.stops) (A6 w.bys) ((0 : Nat) : Int) ((0 + 1 : Nat) : Int) t.nice t.mask t.lag (w.pla 0 x) (mItm w 0) _ _) (A0 b0 (A0 hrt (A0 hat (A0 (meS_at hm) (A0 (itS_at hf) (A0 fit (A0 wr (A0 rfl (A0 rfl (A0 rfl (A0 ih A2)))))))))))
   ·exact Aa _ _ _ _ _ _ (md1n_6 (An w.words) (Aq w.tasks) (Ak w.queues) (As w.lists) (Ao w.stops) (A6 w.bys) ((0 : Nat) : Int) ((0 + 1 : Nat) : Int) t.nice t.mask t.lag (w.pla 0 x) (mItm w 0) _ _) (A0 b0 (A0 hrt (A0 hat (A0 (meS_at hm) (A0 (itS_at hf) (A0 fit (A0 wr (A0 rfl (A0 rfl (A0 rfl (A0 ih A2)))))))))))
  | succ k =>
   obtain ⟨r, R, e2⟩ : ∃ r R, itT w (k + 1) = r :: R := Ce (by omega)
   obtain ⟨a1, a2⟩ := Bd 7 (A1 14 44) r (mItm w (k + 1)).cs R
   have hlen : (r :: R).length = k + 1 := by rw [← e2]; simp only [itT, List.length_map, List.length_take]; omega
   rw [e2, a1, a2] at ih
   rw [e2]
   have fit : false = false ∧ (2 * R.length + 1) = (2 * R.length + 1) ∧ Am (r :: R).length 1 56 := ⟨rfl, rfl, Av (by omega) (by decide)⟩
   rcases hk.cases with ⟨hm, hf⟩ | ⟨hm, hf⟩ | ⟨hm, hf⟩ | ⟨hm, hf⟩ | ⟨hm, hf⟩ | ⟨hm, hf⟩
   ·exact Aa _ _ _ _ _ _ (md1s_0 (An w.words) (Aq w.tasks) (Ak w.queues) (As w.lists) (Ao w.stops) (A6 w.bys) (r :: R) (2 * R.length + 1) ((k + 1 : Nat) : Int) ((k + 1 + 1 : Nat) : Int) t.nice t.mask t.lag (w.pla (k + 1) x) (mItm w (k + 1)) _ _) (A0 b0 (A0 hrt (A0 hat (A0 (meS_at hm) (A0 (itS_at hf) (A0 fit (A0 wr (A0 rfl (A0 rfl (A0 rfl (A0 ih A2)))))))))))
   ·exact Aa _ _ _ _ _ _ (md1s_1 (An w.words) (Aq w.tasks) (Ak w.queues) (As w.lists) (Ao w.stops) (A6 w.bys) (r :: R) (2 * R.length + 1) ((k + 1 : Nat) : Int) ((k + 1 + 1 : Nat) : Int) t.nice t.mask t.lag (w.pla (k + 1) x) (mItm w (k + 1)) _ _) (A0 b0 (A0 hrt (A0 hat (A0 (meS_at hm) (A0 (itS_at hf) (A0 fit (A0 wr (A0 rfl (A0 rfl (A0 rfl (A0 ih A2)))))))))))
   ·exact Aa _ _ _ _ _ _ (md1s_3 (An w.words) (Aq w.tasks) (Ak w.queues) (As w.lists) (Ao w.stops) (A6 w.bys) (r :: R) (2 * R.length + 1) ((k + 1 : Nat) : Int) ((k + 1 + 1 : Nat) : Int) t.nice t.mask t.lag (w.pla (k + 1) x) (mItm w (k + 1)) _ _) (A0 b0 (A0 hrt (A0 hat (A0 (meS_at hm) (A0 (itS_at hf) (A0 fit (A0 wr (A0 rfl (A0 rfl (A0 rfl (A0 ih A2)))))))))))
   ·exact Aa _ _ _ _ _ _ (md1s_4 (An w.words) (Aq w.tasks) (Ak w.queues) (As w.lists) (Ao w.stops) (A6 w.bys) (r :: R) (2 * R.length + 1) ((k + 1 : Nat) : Int) ((k + 1 + 1 : Nat) : Int) t.nice t.mask t.lag (w.pla (k + 1) x) (mItm w (k + 1)) _ _) (A0 b0 (A0 hrt (A0 hat (A0 (meS_at hm) (A0 (itS_at hf) (A0 fit (A0 wr (A0 rfl (A0 rfl (A0 rfl (A0 ih A2)))))))))))
   ·exact Aa _ _ _ _ _ _ (md1s_5 (An w.words) (Aq w.tasks) (Ak w.queues) (As w.lists) (Ao w.stops) (A6 w.bys) (r :: R) (2 * R.length + 1) ((k + 1 : Nat) : Int) ((k + 1 + 1 : Nat) : Int) t.nice t.mask t.lag (w.pla (k + 1) x) (mItm w (k + 1)) _ _) (A0 b0 (A0 hrt (A0 hat (A0 (meS_at hm) (A0 (itS_at hf) (A0 fit (A0 wr (A0 rfl (A0 rfl (A0 rfl (A0 ih A2)))))))))))
   ·exact Aa _ _ _ _ _ _ (md1s_6 (An w.words) (Aq w.tasks) (Ak w.queues) (As w.lists) (Ao w.stops) (A6 w.bys) (r :: R) (2 * R.length + 1) ((k + 1 : Nat) : Int) ((k + 1 + 1 : Nat) : Int) t.nice t.mask t.lag (w.pla (k + 1) x) (mItm w (k + 1)) _ _) (A0 b0 (A0 hrt (A0 hat (A0 (meS_at hm) (A0 (itS_at hf) (A0 fit (A0 wr (A0 rfl (A0 rfl (A0 rfl (A0 ih A2)))))))))))
def mnT (w : Wld) (i : Nat) : A8 := (w.queues.take i).map fun q => [du (q.m : Int)]
def spT (w : Wld) (i : Nat) : A8 := (w.stops.take i).map fun h => [.mn 2 (Aj h)]
theorem mo_l2_0 (w : Wld) (ok : w.Ok) (hw : WR w) : ∀ (d i : Nat), i + d = w.queues.length → Ev CMo Ab (.code 14 false (BE Tryz.prog 14 1) (md2 (An w.words) (Aq w.tasks) (Ak w.queues) (As w.lists) (Ao w.stops) (A6 w.bys) (.d dnil) (apR 1 (A1 14 60) (mnT w i)) (apR 1 (A1 14 70) (spT w i)) ([] ++ (Ct (A1 14 60) (mnT w i) ++ Ct (A1 14 70) (spT w i))) i)) (.code (.exit 2) (md2O (An w.words) (Aq w.tasks) (Ak w.queues) (As w.lists) (Ao w.stops) (A6 w.bys) (.d dnil) (apR 1 (A1 14 60) (mnT w w.queues.length)) (apR 1 (A1 14 70) (spT w w.queues.length)) ([] ++ (Ct (A1 14 60) (mnT w w.queues.length) ++ Ct (A1 14 70) (spT w w.queues.length)))))
 | 0, i, h => by
  obtain rfl : i = w.queues.length := by omega
  exact Ac (md2_exit (An w.words) (Aq w.tasks) (Ak w.queues) (As w.lists) (Ao w.stops) (A6 w.bys) _ _ _ _ _) (A0 (by rw [AD]; exact dge (by omega)) A2)
 | d + 1, i, h => by
  have hi : i < w.queues.length := by omega
  have his : i < w.stops.length := by have := hw.stops; omega
  have hnq := ok.nq
  have ih := mo_l2_0 w ok hw d (i + 1) (by omega)
  have b0 : decide ((i : Int) < ((Ak w.queues).length : Int)) = true := by rw [AD]; exact dlt hi
  have hrq : 0 ≤ (i : Int) ∧ (Ak w.queues)[((i : Int)).toNat]? = some (qrOf w.queues[i]).cs := ⟨by omega, BH (List.getElem?_eq_getElem hi)⟩
  have hrs : 0 ≤ (i : Int) ∧ (Ao w.stops)[((i : Int)).toNat]? = some [.mn 2 (Aj w.stops[i])] := ⟨by omega, BG (List.getElem?_eq_getElem his)⟩
  have hcl : clS [.one (.mn 2 (Aj w.stops[i]))] = some [.one (.mn 2 (Aj w.stops[i]))] := by
   simp only [clS]
   rw [if_pos (by rw [AW]; have := ok.ns _ (List.getElem_mem his); omega)]
  have wr : IntKind.wrap .i64 ((i : Int) + 1) = ((i + 1 : Nat) : Int) := Ag (by omega)
  have e1 : mnT w (i + 1) = mnT w i ++ [[du (w.queues[i].m : Int)]] := Cf hi
  have e2 : spT w (i + 1) = spT w i ++ [[.mn 2 (Aj w.stops[i])]] := Cf his
  rw [e1, e2] at ih
  cases i with
  | zero =>
   have f1 : mnT w 0 = [] := rfl
   have f2 : spT w 0 = [] := rfl
   rw [f1, f2] at ih ⊢
   exact Aa _ _ _ _ _ _ (md2n_0 (An w.words) (Aq w.tasks) (Ak w.queues) (As w.lists) (Ao w.stops) (A6 w.bys) ((0 : Nat) : Int) ((0 + 1 : Nat) : Int) (qrOf w.queues[0]) _ _ _) (A0 b0 (A0 hrq (A0 ⟨rfl, Av (by decide) (by decide)⟩ (A0 hrs (A0 hcl (A0 ⟨rfl, Av (by decide) (by decide)⟩ (A0 wr (A0 rfl (A0 rfl (A0 rfl (A0 ih A2)))))))))))
  | succ k =>
   obtain ⟨r, R, g1⟩ : ∃ r R, mnT w (k + 1) = r :: R := Ce (by omega)
   obtain ⟨r', R', g2⟩ : ∃ r R, spT w (k + 1) = r :: R := Ce (by omega)
   have l1 : (r :: R).length = k + 1 := by rw [← g1]; simp only [mnT, List.length_map, List.length_take]; omega
   have l2 : (r' :: R').length = k + 1 := by rw [← g2]; simp only [spT, List.length_map, List.length_take]; omega
   obtain ⟨a1, a2⟩ := Bd 1 (A1 14 60) r [du (w.queues[k + 1].m : Int)] R
   obtain ⟨a3, a4⟩ := Bd 1 (A1 14 70) r' [.mn 2 (Aj w.stops[k + 1])] R'
   rw [g1, g2, a1, a2, a3, a4] at ih
   rw [g1, g2]
   exact Aa _ _ _ _ _ _ (md2s_0 (An w.words) (Aq w.tasks) (Ak w.queues) (As w.lists) (Ao w.stops) (A6 w.bys) (r :: R) (r' :: R') (2 * R.length + 1) (2 * R'.length + 1) ((k + 1 : Nat) : Int) ((k + 1 + 1 : Nat) : Int) (qrOf w.queues[k + 1]) _ _ _) (A0 b0 (A0 hrq (A0 ⟨rfl, rfl, Av (by omega) (by decide)⟩ (A0 hrs (A0 hcl (A0 ⟨rfl, rfl, Av (by omega) (by decide)⟩ (A0 wr (A0 rfl (A0 rfl (A0 rfl (A0 ih A2)))))))))))
theorem mo_l2_1 (w : Wld) (ok : w.Ok) (hw : WR w) (rows : A8) (g : Nat) : ∀ (d i : Nat), i + d = w.queues.length → Ev CMo Ab (.code 14 false (BE Tryz.prog 14 1) (md2 (An w.words) (Aq w.tasks) (Ak w.queues) (As w.lists) (Ao w.stops) (A6 w.bys) (.st 7 rows (A1 14 44) g) (apR 1 (A1 14 60) (mnT w i)) (apR 1 (A1 14 70) (spT w i)) ([(A1 14 44, g)] ++ (Ct (A1 14 60) (mnT w i) ++ Ct (A1 14 70) (spT w i))) i)) (.code (.exit 2) (md2O (An w.words) (Aq w.tasks) (Ak w.queues) (As w.lists) (Ao w.stops) (A6 w.bys) (.st 7 rows (A1 14 44) g) (apR 1 (A1 14 60) (mnT w w.queues.length)) (apR 1 (A1 14 70) (spT w w.queues.length)) ([(A1 14 44, g)] ++ (Ct (A1 14 60) (mnT w w.queues.length) ++ Ct (A1 14 70) (spT w w.queues.length)))))
 | 0, i, h => by
  obtain rfl : i = w.queues.length := by omega
  exact Ac (md2_exit (An w.words) (Aq w.tasks) (Ak w.queues) (As w.lists) (Ao w.stops) (A6 w.bys) _ _ _ _ _) (A0 (by rw [AD]; exact dge (by omega)) A2)
 | d + 1, i, h => by
  have hi : i < w.queues.length := by omega
  have his : i < w.stops.length := by have := hw.stops; omega
  have hnq := ok.nq
  have ih := mo_l2_1 w ok hw rows g d (i + 1) (by omega)
  have b0 : decide ((i : Int) < ((Ak w.queues).length : Int)) = true := by rw [AD]; exact dlt hi
  have hrq : 0 ≤ (i : Int) ∧ (Ak w.queues)[((i : Int)).toNat]? = some (qrOf w.queues[i]).cs := ⟨by omega, BH (List.getElem?_eq_getElem hi)⟩
  have hrs : 0 ≤ (i : Int) ∧ (Ao w.stops)[((i : Int)).toNat]? = some [.mn 2 (Aj w.stops[i])] := ⟨by omega, BG (List.getElem?_eq_getElem his)⟩
  have hcl : clS [.one (.mn 2 (Aj w.stops[i]))] = some [.one (.mn 2 (Aj w.stops[i]))] := by
   simp only [clS]
   rw [if_pos (by rw [AW]; have := ok.ns _ (List.getElem_mem his); omega)]
  have wr : IntKind.wrap .i64 ((i : Int) + 1) = ((i + 1 : Nat) : Int) := Ag (by omega)
  have e1 : mnT w (i + 1) = mnT w i ++ [[du (w.queues[i].m : Int)]] := Cf hi
  have e2 : spT w (i + 1) = spT w i ++ [[.mn 2 (Aj w.stops[i])]] := Cf his
  rw [e1, e2] at ih
  cases i with
  | zero =>
   have f1 : mnT w 0 = [] := rfl
   have f2 : spT w 0 = [] := rfl
   rw [f1, f2] at ih ⊢
   exact Aa _ _ _ _ _ _ (md2n_1 (An w.words) (Aq w.tasks) (Ak w.queues) (As w.lists) (Ao w.stops) (A6 w.bys) rows g ((0 : Nat) : Int) ((0 + 1 : Nat) : Int) (qrOf w.queues[0]) _ _ _) (A0 b0 (A0 hrq (A0 ⟨rfl, Av (by decide) (by decide)⟩ (A0 hrs (A0 hcl (A0 ⟨rfl, Av (by decide) (by decide)⟩ (A0 wr (A0 rfl (A0 rfl (A0 rfl (A0 ih A2)))))))))))
  | succ k =>
   obtain ⟨r, R, g1⟩ : ∃ r R, mnT w (k + 1) = r :: R := Ce (by omega)
   obtain ⟨r', R', g2⟩ : ∃ r R, spT w (k + 1) = r :: R := Ce (by omega)
   have l1 : (r :: R).length = k + 1 := by rw [← g1]; simp only [mnT, List.length_map, List.length_take]; omega
   have l2 : (r' :: R').length = k + 1 := by rw [← g2]; simp only [spT, List.length_map, List.length_take]; omega
   obtain ⟨a1, a2⟩ := Bd 1 (A1 14 60) r [du (w.queues[k + 1].m : Int)] R
   obtain ⟨a3, a4⟩ := Bd 1 (A1 14 70) r' [.mn 2 (Aj w.stops[k + 1])] R'
   rw [g1, g2, a1, a2, a3, a4] at ih
   rw [g1, g2]
   exact Aa _ _ _ _ _ _ (md2s_1 (An w.words) (Aq w.tasks) (Ak w.queues) (As w.lists) (Ao w.stops) (A6 w.bys) (r :: R) (r' :: R') (2 * R.length + 1) (2 * R'.length + 1) rows g ((k + 1 : Nat) : Int) ((k + 1 + 1 : Nat) : Int) (qrOf w.queues[k + 1]) _ _ _) (A0 b0 (A0 hrq (A0 ⟨rfl, rfl, Av (by omega) (by decide)⟩ (A0 hrs (A0 hcl (A0 ⟨rfl, rfl, Av (by omega) (by decide)⟩ (A0 wr (A0 rfl (A0 rfl (A0 rfl (A0 ih A2)))))))))))
theorem wl2 {a b c d e f : DV} {x : PV} (h1 : DW a d) (h2 : DW b e) (h3 : DW c f) : WL [.agg [a, b, c], x] [.agg [d, e, f], x] := WL.cons (.agg rfl fun i y z hy hz => by
 match i with
 | 0 => simp only [List.getElem?_cons_zero, Option.some.injEq] at hy hz; subst hy; subst hz; exact h1
 | 1 => simp only [List.getElem?_cons_succ, List.getElem?_cons_zero, Option.some.injEq] at hy hz; subst hy; subst hz; exact h2
 | 2 => simp only [List.getElem?_cons_succ, List.getElem?_cons_zero, Option.some.injEq] at hy hz; subst hy; subst hz; exact h3
 | _ + 3 => simp at hy) (WL.same _)
theorem mo_sat : AJ C0 14 moS := AJ.ctx (C := CMo) rfl rfl (Bh (O := Ab) hPMo (fun _ _ h => h.elim) Bm fun ps rs hs => by
 unfold moS at hs
 split at hs
 ·unfold moV at hs
  split at hs
  ·rename_i w hw
   simp only [Option.some.injEq] at hs; subst hs
   obtain ⟨rfl, ok⟩ := BY hw
   have hr := wrS_at ok
   unfold mdlC errO
   cases h : wR w with
   | false =>
    rw [h] at hr
    exact ⟨_, _, WL.same _, wl2 (.nil 7) (.nil 1) (.nil 1), A4 (mdw_bad (An w.words) (Aq w.tasks) (Ak w.queues) (As w.lists) (Ao w.stops) (A6 w.bys)) (A0 hr A2)⟩
   | true =>
    rw [h] at hr
    rw [if_pos rfl, if_pos rfl]
    have hW := wR_parts h
    have k1 := mo_l1 w ok hW w.words.length 0 (by omega)
    have f0 : itT w 0 = [] := rfl
    have fa : itT w w.words.length = itrows (mIts w) := by unfold itT; rw [List.take_of_length_le (by rw [mIts_len]; omega)]; rfl
    have m0 : mnT w 0 = [] := rfl
    have s0 : spT w 0 = [] := rfl
    have ma : mnT w w.queues.length = mrows w.queues := by unfold mnT; rw [List.take_of_length_le (by omega)]; rfl
    have sa : spT w w.queues.length = Ao w.stops := by unfold spT; rw [List.take_of_length_le (by have := hW.stops; omega)]; rfl
    have hq1 := hW.n1
    have hs1 := hW.stops
    rw [f0, fa] at k1
    obtain ⟨r2, R2, c2⟩ : ∃ r R, mrows w.queues = r :: R := by
     cases hc : mrows w.queues with
     | nil => have := congrArg List.length hc; simp [mrows] at this; rw [this] at hq1; simp at hq1
     | cons r R => exact ⟨r, R, rfl⟩
    obtain ⟨r3, R3, c3⟩ : ∃ r R, Ao w.stops = r :: R := by
     cases hc : Ao w.stops with
     | nil => have := congrArg List.length hc; simp [Ao] at this; rw [this] at hs1; simp at hs1; omega
     | cons r R => exact ⟨r, R, rfl⟩
    cases ci : itrows (mIts w) with
    | nil =>
     have k2 := mo_l2_0 w ok hW w.queues.length 0 (by omega)
     rw [m0, s0, ma.trans c2, sa.trans c3] at k2
     rw [ci] at k1
     rw [c2, c3]
     exact ⟨_, _, WL.same _, wl2 (.nil 7) (.row 1 false _) (.row 1 false _), A4 (mdw_0 (An w.words) (Aq w.tasks) (Ak w.queues) (As w.lists) (Ao w.stops) (A6 w.bys) _ _ _ _) (A0 hr (A0 k1 (A0 k2 A2)))⟩
    | cons r R =>
     have k2 := mo_l2_1 w ok hW (r :: R) (2 * R.length + 1) w.queues.length 0 (by omega)
     rw [m0, s0, ma.trans c2, sa.trans c3] at k2
     rw [ci] at k1
     rw [c2, c3]
     exact ⟨_, _, WL.same _, wl2 (.row 7 false _) (.row 1 false _) (.row 1 false _), A4 (mdw_1 (An w.words) (Aq w.tasks) (Ak w.queues) (As w.lists) (Ao w.stops) (A6 w.bys) _ _ _ _ _ _) (A0 hr (A0 k1 (A0 k2 A2)))⟩
  ·cases hs
 ·cases hs)
def cpR (n lo hi : Int) : Int := if n < lo then lo else if n > hi then hi else n
def cpS : Spec
 | [.one (.v (.int .i64 n)), .one (.v (.int .i64 lo)), .one (.v (.int .i64 hi))] => some [A5 (cpR n lo hi)]
 | _ => none
def adS : Spec
 | [.one (.v (.int .u64 a)), .one (.v (.int .i64 l))] => some [pu (atR a l)]
 | _ => none
theorem cp_1 (n lo hi : Int) : Cs C0 Ab 60 116 [A5 n, A5 lo, A5 hi] [(A1 116 9, .b true)] = some ([A5 lo], [], [decide (n < lo) = true]) := by kernel_rfl
theorem cp_2 (n lo hi : Int) : Cs C0 Ab 60 116 [A5 n, A5 lo, A5 hi] [(A1 116 9, .b false), (A1 116 13, .b true)] = some ([A5 hi], [], [decide (n < lo) = false, decide (n > hi) = true]) := by kernel_rfl
theorem cp_3 (n lo hi : Int) : Cs C0 Ab 60 116 [A5 n, A5 lo, A5 hi] [(A1 116 9, .b false), (A1 116 13, .b false)] = some ([A5 n], [], [decide (n < lo) = false, decide (n > hi) = false]) := by kernel_rfl
theorem ad_1 (a l : Int) : Cs C0 Ab 60 115 [pu a, A5 l] [] = some ([pu (atR a l)], [], []) := by kernel_rfl
theorem cp_sat : AJ C0 116 cpS := Af (O := Ab) BN (fun _ _ h => h.elim) Bm fun ps rs hs => by
 unfold cpS at hs
 split at hs
 ·rename_i n lo hi
  simp only [Option.some.injEq] at hs; subst hs
  unfold cpR
  by_cases h1 : n < lo
  ·rw [if_pos h1]; exact A4 (cp_1 n lo hi) (A0 (decide_eq_true h1) A2)
  ·rw [if_neg h1]
   by_cases h2 : n > hi
   ·rw [if_pos h2]; exact A4 (cp_2 n lo hi) (A0 (decide_eq_false h1) (A0 (decide_eq_true h2) A2))
   ·rw [if_neg h2]; exact A4 (cp_3 n lo hi) (A0 (decide_eq_false h1) (A0 (decide_eq_false h2) A2))
 ·cases hs
theorem ad_sat : AJ C0 115 adS := Af (O := Ab) BN (fun _ _ h => h.elim) Bm fun ps rs hs => by
 unfold adS at hs
 split at hs
 ·simp only [Option.some.injEq] at hs; subst hs
  exact A4 (ad_1 _ _) A2
 ·cases hs
noncomputable def CId : Ctx := Ad (Ad (Ad (Ad C0 61 saS) 114 ldS) 116 cpS) 115 adS
theorem hPId : Aw CId := A7 (A7 (A7 (A7 BN (sa_sat.ctx rfl rfl) (by kernel_rfl)) (ld_sat.ctx rfl rfl) (by kernel_rfl)) (cp_sat.ctx rfl rfl) (by kernel_rfl)) (ad_sat.ctx rfl rfl) (by kernel_rfl)
theorem id_0 (wd tk qr lr sr bw : A8) (i k c s g n m l : Int) (b : Bool) : Cs CId Ab 60 60 [.agg (AM wd tk qr lr sr bw), A5 i] [(A1 60 11, .prim [.agg (Bg k c s g b)]), (A1 60 16, .row [di n, du m, di l]), (A1 60 20, .b true)] = some ([.agg (itC 0 0 g 0 0 0 0)], [], [saS [.agg (AM wd tk qr lr sr bw), A5 i] = some [.agg (Bg k c s g b)], 0 ≤ i ∧ tk[i.toNat]? = some [di n, du m, di l], (k == 0) = true]) := by kernel_rfl
theorem id_2t (wd tk qr lr sr bw : A8) (i k c s g n m l : Int) (q : Qr) : Cs CId Ab 60 60 [.agg (AM wd tk qr lr sr bw), A5 i] [(A1 60 11, .prim [.agg (Bg k c s g true)]), (A1 60 16, .row [di n, du m, di l]), (A1 60 20, .b false), (A1 60 39, .row q.cs), (A1 60 47, .b true)] = some ([.agg (itC 3 c g n m 0 l)], [], [saS [.agg (AM wd tk qr lr sr bw), A5 i] = some [.agg (Bg k c s g true)], 0 ≤ i ∧ tk[i.toNat]? = some [di n, du m, di l], (k == 0) = false, 0 ≤ c ∧ qr[c.toNat]? = some q.cs, (k == 2) = true]) := by kernel_rfl
theorem id_2ft (wd tk qr lr sr bw : A8) (i k c s g n m l : Int) (q : Qr) : Cs CId Ab 60 60 [.agg (AM wd tk qr lr sr bw), A5 i] [(A1 60 11, .prim [.agg (Bg k c s g false)]), (A1 60 16, .row [di n, du m, di l]), (A1 60 20, .b false), (A1 60 39, .row q.cs), (A1 60 47, .b true), (A1 60 58, .b true), (A1 60 62, .prim [A3 true])] = some ([.agg (itC 3 c g n m 0 l)], [], [saS [.agg (AM wd tk qr lr sr bw), A5 i] = some [.agg (Bg k c s g false)], 0 ≤ i ∧ tk[i.toNat]? = some [di n, du m, di l], (k == 0) = false, 0 ≤ c ∧ qr[c.toNat]? = some q.cs, (k == 2) = true, (k == 2) = true, ldS [.agg (AM wd tk qr lr sr bw), A5 i] = some [A3 true]]) := by kernel_rfl
theorem id_2ff (wd tk qr lr sr bw : A8) (i k c s g n m l : Int) (q : Qr) : Cs CId Ab 60 60 [.agg (AM wd tk qr lr sr bw), A5 i] [(A1 60 11, .prim [.agg (Bg k c s g false)]), (A1 60 16, .row [di n, du m, di l]), (A1 60 20, .b false), (A1 60 39, .row q.cs), (A1 60 47, .b true), (A1 60 58, .b true), (A1 60 62, .prim [A3 false])] = some ([.agg (itC 1 c g n m 0 l)], [], [saS [.agg (AM wd tk qr lr sr bw), A5 i] = some [.agg (Bg k c s g false)], 0 ≤ i ∧ tk[i.toNat]? = some [di n, du m, di l], (k == 0) = false, 0 ≤ c ∧ qr[c.toNat]? = some q.cs, (k == 2) = true, (k == 2) = true, ldS [.agg (AM wd tk qr lr sr bw), A5 i] = some [A3 false]]) := by kernel_rfl
theorem id_7t (wd tk qr lr sr bw : A8) (i k c s g n m l : Int) (q : Qr) : Cs CId Ab 60 60 [.agg (AM wd tk qr lr sr bw), A5 i] [(A1 60 11, .prim [.agg (Bg k c s g true)]), (A1 60 16, .row [di n, du m, di l]), (A1 60 20, .b false), (A1 60 39, .row q.cs), (A1 60 47, .b false), (A1 60 48, .b true)] = some ([.agg (itC 3 c g n m 0 l)], [], [saS [.agg (AM wd tk qr lr sr bw), A5 i] = some [.agg (Bg k c s g true)], 0 ≤ i ∧ tk[i.toNat]? = some [di n, du m, di l], (k == 0) = false, 0 ≤ c ∧ qr[c.toNat]? = some q.cs, (k == 2) = false, (k == 7) = true]) := by kernel_rfl
theorem id_7f (wd tk qr lr sr bw : A8) (i k c s g n m l : Int) (q : Qr) : Cs CId Ab 60 60 [.agg (AM wd tk qr lr sr bw), A5 i] [(A1 60 11, .prim [.agg (Bg k c s g false)]), (A1 60 16, .row [di n, du m, di l]), (A1 60 20, .b false), (A1 60 39, .row q.cs), (A1 60 47, .b false), (A1 60 48, .b true), (A1 60 58, .b false)] = some ([.agg (itC 1 c g n m 0 l)], [], [saS [.agg (AM wd tk qr lr sr bw), A5 i] = some [.agg (Bg k c s g false)], 0 ≤ i ∧ tk[i.toNat]? = some [di n, du m, di l], (k == 0) = false, 0 ≤ c ∧ qr[c.toNat]? = some q.cs, (k == 2) = false, (k == 7) = true, (k == 2) = false]) := by kernel_rfl
theorem id_4 (wd tk qr lr sr bw : A8) (i k c s g n m l : Int) (b : Bool) (q : Qr) (x1 x2 : Bool) (y l3 r3 u3 : Int) : Cs CId Ab 60 60 [.agg (AM wd tk qr lr sr bw), A5 i] [(A1 60 11, .prim [.agg (Bg k c s g b)]), (A1 60 16, .row [di n, du m, di l]), (A1 60 20, .b false), (A1 60 39, .row q.cs), (A1 60 47, .b false), (A1 60 48, .b false), (A1 60 67, .b true), (A1 60 72, .row [db x1, db x2, du y, di l3, di r3, di u3])] = some ([.agg (itC k c g n m y 0)], [], [saS [.agg (AM wd tk qr lr sr bw), A5 i] = some [.agg (Bg k c s g b)], 0 ≤ i ∧ tk[i.toNat]? = some [di n, du m, di l], (k == 0) = false, 0 ≤ c ∧ qr[c.toNat]? = some q.cs, (k == 2) = false, (k == 7) = false, (k == 4) = true, 0 ≤ i ∧ q.ns[i.toNat]? = some [db x1, db x2, du y, di l3, di r3, di u3]]) := by kernel_rfl
theorem id_5 (wd tk qr lr sr bw : A8) (i k c s g n m l : Int) (b : Bool) (q : Qr) : Cs CId Ab 60 60 [.agg (AM wd tk qr lr sr bw), A5 i] [(A1 60 11, .prim [.agg (Bg k c s g b)]), (A1 60 16, .row [di n, du m, di l]), (A1 60 20, .b false), (A1 60 39, .row q.cs), (A1 60 47, .b false), (A1 60 48, .b false), (A1 60 67, .b false), (A1 60 77, .b true)] = some ([.agg (itC k c g n m q.v 0)], [], [saS [.agg (AM wd tk qr lr sr bw), A5 i] = some [.agg (Bg k c s g b)], 0 ≤ i ∧ tk[i.toNat]? = some [di n, du m, di l], (k == 0) = false, 0 ≤ c ∧ qr[c.toNat]? = some q.cs, (k == 2) = false, (k == 7) = false, (k == 4) = false, (k == 5) = true]) := by kernel_rfl
theorem id_6 (wd tk qr lr sr bw : A8) (i k c s g n m l : Int) (b : Bool) (q : Qr) (cl v : Int) : Cs CId Ab 60 60 [.agg (AM wd tk qr lr sr bw), A5 i] [(A1 60 11, .prim [.agg (Bg k c s g b)]), (A1 60 16, .row [di n, du m, di l]), (A1 60 20, .b false), (A1 60 39, .row q.cs), (A1 60 47, .b false), (A1 60 48, .b false), (A1 60 67, .b false), (A1 60 77, .b false), (A1 60 82, .b true), (A1 60 88, .prim [A5 cl]), (A1 60 89, .prim [pu v])] = some ([.agg (itC 4 c g n m v 0)], [], [saS [.agg (AM wd tk qr lr sr bw), A5 i] = some [.agg (Bg k c s g b)], 0 ≤ i ∧ tk[i.toNat]? = some [di n, du m, di l], (k == 0) = false, 0 ≤ c ∧ qr[c.toNat]? = some q.cs, (k == 2) = false, (k == 7) = false, (k == 4) = false, (k == 5) = false, (k == 6) = true, cpS [A5 l, A5 (-1048576), A5 1125899906842624] = some [A5 cl], adS [pu q.m, A5 cl] = some [pu v]]) := by kernel_rfl
theorem id_d (wd tk qr lr sr bw : A8) (i k c s g n m l : Int) (b : Bool) (q : Qr) : Cs CId Ab 60 60 [.agg (AM wd tk qr lr sr bw), A5 i] [(A1 60 11, .prim [.agg (Bg k c s g b)]), (A1 60 16, .row [di n, du m, di l]), (A1 60 20, .b false), (A1 60 39, .row q.cs), (A1 60 47, .b false), (A1 60 48, .b false), (A1 60 67, .b false), (A1 60 77, .b false), (A1 60 82, .b false)] = some ([.agg (itC k c g n m 0 l)], [], [saS [.agg (AM wd tk qr lr sr bw), A5 i] = some [.agg (Bg k c s g b)], 0 ≤ i ∧ tk[i.toNat]? = some [di n, du m, di l], (k == 0) = false, 0 ≤ c ∧ qr[c.toNat]? = some q.cs, (k == 2) = false, (k == 7) = false, (k == 4) = false, (k == 5) = false, (k == 6) = false]) := by kernel_rfl
open Classical in
noncomputable def idV (i : Int) : Option Wld → Option (List PV)
 | some w => if 0 ≤ i ∧ SndIn w i.toNat ∧ sndR w i.toNat = true then some [.agg (mItm w i.toNat).cs] else none
 | none => none
noncomputable def idS : Spec
 | [.agg cs, .one (.v (.int .i64 i))] => idV i (wldR cs)
 | _ => none
theorem idS_at {w : Wld} (ok : w.Ok) {i : Nat} (h1 : SndIn w i) (h2 : sndR w i = true) : idS [.agg w.cs, A5 i] = some [.agg (mItm w i).cs] := by
 show idV i (wldR w.cs) = _
 rw [wldR_cs ok]
 unfold idV
 simp only
 rw [if_pos ⟨by omega, by rw [Int.toNat_natCast]; exact ⟨h1, h2⟩⟩, Int.toNat_natCast]
theorem word_bit {x : Nat} (h : Ck x = true) : (At x).bit = true → (At x).kind = 7 := by
 intro hb
 unfold Ck at h
 rw [Bool.and_eq_true, hb] at h
 exact of_decide_eq_true (by simpa using h.2)
theorem kind_lt (x : Nat) : (At x).kind < 8 := by unfold At; exact Nat.mod_lt _ (by decide)
theorem clamp_eq {l : Int} (h : l ≤ 1125899906842624) : cpR l (-1048576) 1125899906842624 = mxL l := by
 unfold cpR mxL
 by_cases h1 : l < -1048576
 ·rw [if_pos h1, if_pos h1]
 ·rw [if_neg h1, if_neg (by omega), if_neg h1]
theorem id_sat : AJ C0 60 idS := AJ.ctx (C := CId) rfl rfl (Af (O := Ab) hPId (fun _ _ h => h.elim) Bm fun ps rs hs => by
 unfold idS at hs
 split at hs
 ·rename_i cs i
  unfold idV at hs
  split at hs
  ·rename_i w hw
   split at hs
   ·rename_i hc
    obtain ⟨hi, hin, hr⟩ := hc
    obtain ⟨i, rfl⟩ := Int.eq_ofNat_of_zero_le hi
    simp only [Option.some.injEq, Int.toNat_natCast] at hs hin hr
    subst hs
    obtain ⟨rfl, ok⟩ := BY hw
    obtain ⟨x, t, q, h⟩ := it_ok hin hr
    have e : mItm w i = itmOf w i (At x) t := by simp only [mItm, h.hx, h.ht]
    have hsa : saS [.agg w.cs, A5 i] = some [.agg (Bg (At x).kind (At x).cpu (At x).seq (At x).gen (At x).bit)] := saS_at ok h.hx h.wo
    have hrt : 0 ≤ (i : Int) ∧ (Aq w.tasks)[((i : Int)).toNat]? = some [di t.nice, du t.mask, di t.lag] := ⟨by omega, trows_at h.ht⟩
    have hrq : 0 ≤ (((At x).cpu : Nat) : Int) ∧ (Ak w.queues)[((((At x).cpu : Nat) : Int)).toNat]? = some (qrOf q).cs := ⟨by omega, BH h.hq⟩
    have hnd := List.getElem?_eq_getElem h.hn
    have hrn : 0 ≤ (i : Int) ∧ (qrOf q).ns[((i : Int)).toNat]? = some (q.ns[i]'h.hn).cs := ⟨by omega, AS hnd⟩
    have hls : ldS [.agg w.cs, A5 i] = some [A3 (lsAny w.lists i)] := by
     show ldV i (lrOf w.cs) = _
     show ldV i (some (As w.lists)) = _
     simp only [ldV, lsOf_at h.hl h.ll]
    have hnv : nodV w i (At x).cpu = (q.ns[i]'h.hn).v := by simp only [nodV, h.hq, hnd]
    have hqv : qvOf w (At x).cpu = q.v := by simp only [qvOf, h.hq]
    have hqm : qmOf w (At x).cpu = q.m := by simp only [qmOf, h.hq]
    have hbit := word_bit h.wo
    have hk8 := kind_lt x
    have hlag : ¬ (At x).kind = 0 → t.lag ≤ 1125899906842624 := fun hk => by
     have := h.row
     unfold rowOK at this
     rw [h.wo, if_neg hk, Bool.true_and] at this
     unfold tskOK at this
     exact (of_decide_eq_true this).2.2.2.2
    rw [e]
    unfold itmOf
    generalize At x = st at *
    obtain ⟨k, c, b, s, g⟩ := st
    simp only at hbit hk8 hlag hsa hrq hnv hqv hqm ⊢
    have bt : ∀ {x y : Int}, x = y → (x == y) = true := fun h => by rw [h]; exact beq_self_eq_true _
    have bf : ∀ {x y : Int}, ¬ x = y → (x == y) = false := fun h => beq_eq_false_iff_ne.2 h
    by_cases h0 : (k : Int) = 0
    ·rw [if_pos h0]
     exact A4 (id_0 (An w.words) (Aq w.tasks) (Ak w.queues) (As w.lists) (Ao w.stops) (A6 w.bys) i k c s g t.nice t.mask t.lag b) (A0 hsa (A0 hrt (A0 (bt h0) A2)))
    have hlag' := hlag (by omega)
    rw [if_neg h0]
    have two : ∀ {l : List Prop}, AI l → AI ((saS [.agg w.cs, A5 i] = some [.agg (Bg k c s g b)]) :: (0 ≤ (i : Int) ∧ (Aq w.tasks)[((i : Int)).toNat]? = some [di t.nice, du t.mask, di t.lag]) :: (((k : Int) == 0) = false) :: (0 ≤ ((c : Nat) : Int) ∧ (Ak w.queues)[(((c : Nat) : Int)).toNat]? = some (qrOf q).cs) :: l) := fun hL => A0 hsa (A0 hrt (A0 (bf h0) (A0 hrq hL)))
    by_cases h2 : (k : Int) = 2
    ·have hb : b = false := by
      cases b with
      | false => rfl
      | true => have := hbit rfl; omega
     subst hb
     rw [if_neg (by omega), if_neg (by omega), if_neg (by omega), if_neg (by omega), if_neg (by decide), if_pos h2]
     cases hz : lsAny w.lists i with
     | true =>
      rw [hz] at hls
      exact A4 (id_2ft (An w.words) (Aq w.tasks) (Ak w.queues) (As w.lists) (Ao w.stops) (A6 w.bys) i k c s g t.nice t.mask t.lag (qrOf q)) (two (A0 (bt h2) (A0 (bt h2) (A0 hls A2))))
     | false =>
      rw [hz] at hls
      exact A4 (id_2ff (An w.words) (Aq w.tasks) (Ak w.queues) (As w.lists) (Ao w.stops) (A6 w.bys) i k c s g t.nice t.mask t.lag (qrOf q)) (two (A0 (bt h2) (A0 (bt h2) (A0 hls A2))))
    by_cases h7 : (k : Int) = 7
    ·rw [if_neg (by omega), if_neg (by omega), if_neg (by omega), if_neg (by omega), if_neg h2]
     cases b with
     | true =>
      rw [if_pos rfl]
      exact A4 (id_7t (An w.words) (Aq w.tasks) (Ak w.queues) (As w.lists) (Ao w.stops) (A6 w.bys) i k c s g t.nice t.mask t.lag (qrOf q)) (two (A0 (bf h2) (A0 (bt h7) A2)))
     | false =>
      rw [if_neg (by decide)]
      exact A4 (id_7f (An w.words) (Aq w.tasks) (Ak w.queues) (As w.lists) (Ao w.stops) (A6 w.bys) i k c s g t.nice t.mask t.lag (qrOf q)) (two (A0 (bf h2) (A0 (bt h7) (A0 (bf h2) A2))))
    have hb : b = false := by
     cases b with
     | false => rfl
     | true => have := hbit rfl; omega
    subst hb
    by_cases h4 : (k : Int) = 4
    ·rw [if_pos h4, hnv]
     have := A4 (id_4 (An w.words) (Aq w.tasks) (Ak w.queues) (As w.lists) (Ao w.stops) (A6 w.bys) i k c s g t.nice t.mask t.lag false (qrOf q) (q.ns[i]'h.hn).inn (q.ns[i]'h.hn).red (q.ns[i]'h.hn).v (q.ns[i]'h.hn).l (q.ns[i]'h.hn).r (q.ns[i]'h.hn).u) (two (A0 (bf h2) (A0 (bf h7) (A0 (bt h4) (A0 hrn A2)))))
     rw [h4] at this
     exact this
    rw [if_neg h4]
    by_cases h5 : (k : Int) = 5
    ·rw [if_pos h5, hqv]
     have := A4 (id_5 (An w.words) (Aq w.tasks) (Ak w.queues) (As w.lists) (Ao w.stops) (A6 w.bys) i k c s g t.nice t.mask t.lag false (qrOf q)) (two (A0 (bf h2) (A0 (bf h7) (A0 (bf h4) (A0 (bt h5) A2)))))
     rw [h5] at this
     exact this
    rw [if_neg h5]
    by_cases h6 : (k : Int) = 6
    ·rw [if_pos h6, hqm]
     exact A4 (id_6 (An w.words) (Aq w.tasks) (Ak w.queues) (As w.lists) (Ao w.stops) (A6 w.bys) i k c s g t.nice t.mask t.lag false (qrOf q) (mxL t.lag) (atR q.m (mxL t.lag))) (two (A0 (bf h2) (A0 (bf h7) (A0 (bf h4) (A0 (bf h5) (A0 (bt h6) (A0 (by rw [← clamp_eq hlag']; rfl) (A0 rfl A2))))))))
    rw [if_neg h6]
    have hd := A4 (id_d (An w.words) (Aq w.tasks) (Ak w.queues) (As w.lists) (Ao w.stops) (A6 w.bys) i k c s g t.nice t.mask t.lag false (qrOf q)) (two (A0 (bf h2) (A0 (bf h7) (A0 (bf h4) (A0 (bf h5) (A0 (bf h6) A2))))))
    by_cases h3 : (k : Int) = 3
    ·rw [if_pos h3]
     rw [h3] at hd
     exact hd
    ·have h1 : (k : Int) = 1 := by omega
     rw [if_neg h3, if_neg (by decide), if_neg h2]
     rw [h1] at hd
     exact hd
   ·cases hs
  ·cases hs
 ·cases hs)
noncomputable def C0n : Ctx := { C0 with nt := fun f t => f == 22 && t == 52 }
theorem hP0n : Aw C0n := ⟨fun g spec h => (by cases h), fun g h => (by cases h), fun g sz h => (by cases h)⟩
noncomputable def CMd : Ctx := Ad (Ad C0n 46 wrS) 60 idS
theorem hPMd : Aw CMd := A7 (A7 hP0n (dr_sat.ctx rfl rfl) (by kernel_rfl)) (id_sat.ctx rfl rfl) (by kernel_rfl)
def neH (wd tk qr lr sr bw : A8) (a b c : AV) (t : AC) : H := { objs := [(A1 22 1, 1, [.cells ((AM wd tk qr lr sr bw).map .d) false]), (A1 22 2, 1, [.cells [.d dnil, .d dnil, .d dnil] false]), (A1 22 4, 1, [.cells [a, b, c] false])], toks := t }
def ne1 (wd tk qr lr sr bw : A8) (a : AV) (t : AC) (i : Int) : St := { σ := Ap 57 [(1, .ptr (A1 22 1) 0 0), (2, .ptr (A1 22 2) 0 0), (4, .ptr (A1 22 4) 0 0), (5, vi i)], h := neH wd tk qr lr sr bw a (.d dnil) (.d dnil) t }
def ne1O (wd tk qr lr sr bw : A8) (a : AV) (t : AC) : St := { σ := Ap 57 [(1, .ptr (A1 22 1) 0 0), (2, .ptr (A1 22 2) 0 0), (4, .ptr (A1 22 4) 0 0)], h := neH wd tk qr lr sr bw a (.d dnil) (.d dnil) t }
def ne2 (wd tk qr lr sr bw : A8) (a b c : AV) (t : AC) (i : Int) : St := { σ := Ap 57 [(1, .ptr (A1 22 1) 0 0), (2, .ptr (A1 22 2) 0 0), (4, .ptr (A1 22 4) 0 0), (6, vi i)], h := neH wd tk qr lr sr bw a b c t }
def ne2O (wd tk qr lr sr bw : A8) (a b c : AV) (t : AC) : St := { σ := Ap 57 [(2, .ptr (A1 22 2) 0 0), (4, .ptr (A1 22 4) 0 0)], h := neH wd tk qr lr sr bw a b c t }
theorem ne1_exit (wd tk qr lr sr bw : A8) (a : AV) (t : AC) (i : Int) : symM CMd Ab 60 22 false (BE Tryz.prog 22 0) (ne1 wd tk qr lr sr bw a t i) [(A1 22 16, .b false)] [1, 2, 4] = some ((.exit 0, ne1O wd tk qr lr sr bw a t), [], [decide (i < (wd.length : Int)) = false]) := by kernel_rfl
theorem ne1n (wd tk qr lr sr bw : A8) (i i' : Int) (y : Itm) (X : X) (st : St) : AY CMd Ab 60 (.code 22 false (BE Tryz.prog 22 0) (ne1 wd tk qr lr sr bw (.d dnil) [] i)) [(A1 22 16, .b true), (A1 22 23, .prim [.agg y.cs]), (A1 22 25, .app false), (A1 22 18, .int i'), (A1 22 8001, .loop [1, 2, 4, 5] X st)] = some (.code X st, [], [decide (i < (wd.length : Int)) = true, idS [.agg (AM wd tk qr lr sr bw), A5 i] = some [.agg y.cs], false = false ∧ Am 0 1 56, IntKind.wrap .i64 (i + 1) = i', Ev CMd Ab (.code 22 false (BE Tryz.prog 22 0) (ne1 wd tk qr lr sr bw (.st 7 [y.cs] (A1 22 25) 1) [((A1 22 25), 1)] i')) (.code X st)]) := by kernel_rfl
theorem ne1s (wd tk qr lr sr bw : A8) (rows : A8) (g : Nat) (i i' : Int) (y : Itm) (X : X) (st : St) : AY CMd Ab 60 (.code 22 false (BE Tryz.prog 22 0) (ne1 wd tk qr lr sr bw (.st 7 rows (A1 22 25) g) [((A1 22 25), g)] i)) [(A1 22 16, .b true), (A1 22 23, .prim [.agg y.cs]), (A1 22 25, .app false), (A1 22 18, .int i'), (A1 22 8001, .loop [1, 2, 4, 5] X st)] = some (.code X st, [], [decide (i < (wd.length : Int)) = true, idS [.agg (AM wd tk qr lr sr bw), A5 i] = some [.agg y.cs], false = false ∧ g = g ∧ Am rows.length 1 56, IntKind.wrap .i64 (i + 1) = i', Ev CMd Ab (.code 22 false (BE Tryz.prog 22 0) (ne1 wd tk qr lr sr bw (.st 7 (rows ++ [y.cs]) (A1 22 25) (g + 1 + 1)) [((A1 22 25), g + 1 + 1)] i')) (.code X st)]) := by kernel_rfl
theorem ne2_exit (wd tk qr lr sr bw : A8) (a b c : AV) (t : AC) (i : Int) : symM CMd Ab 60 22 false (BE Tryz.prog 22 1) (ne2 wd tk qr lr sr bw a b c t i) [(A1 22 31, .b false)] [2, 4] = some ((.exit 2, ne2O wd tk qr lr sr bw a b c t), [], [decide (i < (qr.length : Int)) = false]) := by kernel_rfl
theorem ne2ne_0 (wd tk qr lr sr bw : A8) (i i' : Int) (q : Qr) (hs : A8) (X : X) (st : St) : AY CMd Ab 60 (.code 22 false (BE Tryz.prog 22 1) (ne2 wd tk qr lr sr bw (.d dnil) (.d dnil) (.d dnil) [] i)) [(A1 22 31, .b true), (A1 22 39, .row q.cs), (A1 22 43, .app false), (A1 22 50, .row [.mn 2 hs]), (A1 22 52, .app true), (A1 22 54, .app false), (A1 22 33, .int i'), (A1 22 8001, .loop [1, 2, 4, 6] X st)] = some (.code X st, [], [decide (i < (qr.length : Int)) = true, 0 ≤ i ∧ qr[i.toNat]? = some q.cs, false = false ∧ Am 0 1 8, 0 ≤ i ∧ sr[i.toNat]? = some [.mn 2 hs], hs.isEmpty = true, false = false ∧ Am 0 1 24, IntKind.wrap .i64 (i + 1) = i', Ev CMd Ab (.code 22 false (BE Tryz.prog 22 1) (ne2 wd tk qr lr sr bw (.d dnil) (.st 1 [[du q.m]] (A1 22 43) 1) (.st 1 [[dnil]] (A1 22 54) 1) [((A1 22 43), 1), ((A1 22 54), 1)] i')) (.code X st)]) := by kernel_rfl
theorem ne2nf_0 (wd tk qr lr sr bw : A8) (i i' : Int) (q : Qr) (hs : A8) (X : X) (st : St) : AY CMd Ab 60 (.code 22 false (BE Tryz.prog 22 1) (ne2 wd tk qr lr sr bw (.d dnil) (.d dnil) (.d dnil) [] i)) [(A1 22 31, .b true), (A1 22 39, .row q.cs), (A1 22 43, .app false), (A1 22 50, .row [.mn 2 hs]), (A1 22 52, .app false), (A1 22 54, .app false), (A1 22 33, .int i'), (A1 22 8001, .loop [1, 2, 4, 6] X st)] = some (.code X st, [], [decide (i < (qr.length : Int)) = true, 0 ≤ i ∧ qr[i.toNat]? = some q.cs, false = false ∧ Am 0 1 8, 0 ≤ i ∧ sr[i.toNat]? = some [.mn 2 hs], hs.isEmpty = false ∧ Am 0 hs.length 16, false = false ∧ Am 0 1 24, IntKind.wrap .i64 (i + 1) = i', Ev CMd Ab (.code 22 false (BE Tryz.prog 22 1) (ne2 wd tk qr lr sr bw (.d dnil) (.st 1 [[du q.m]] (A1 22 43) 1) (.st 1 [[.sl 2 false hs]] (A1 22 54) 1) [((A1 22 43), 1), ((A1 22 54), 1)] i')) (.code X st)]) := by kernel_rfl
theorem ne2se_0 (wd tk qr lr sr bw : A8) (r2 r3 : A8) (g2 g3 : Nat) (i i' : Int) (q : Qr) (hs : A8) (X : X) (st : St) : AY CMd Ab 60 (.code 22 false (BE Tryz.prog 22 1) (ne2 wd tk qr lr sr bw (.d dnil) (.st 1 r2 (A1 22 43) g2) (.st 1 r3 (A1 22 54) g3) [((A1 22 43), g2), ((A1 22 54), g3)] i)) [(A1 22 31, .b true), (A1 22 39, .row q.cs), (A1 22 43, .app false), (A1 22 50, .row [.mn 2 hs]), (A1 22 52, .app true), (A1 22 54, .app false), (A1 22 33, .int i'), (A1 22 8001, .loop [1, 2, 4, 6] X st)] = some (.code X st, [], [decide (i < (qr.length : Int)) = true, 0 ≤ i ∧ qr[i.toNat]? = some q.cs, false = false ∧ g2 = g2 ∧ Am r2.length 1 8, 0 ≤ i ∧ sr[i.toNat]? = some [.mn 2 hs], hs.isEmpty = true, false = false ∧ g3 = g3 ∧ Am r3.length 1 24, IntKind.wrap .i64 (i + 1) = i', Ev CMd Ab (.code 22 false (BE Tryz.prog 22 1) (ne2 wd tk qr lr sr bw (.d dnil) (.st 1 (r2 ++ [[du q.m]]) (A1 22 43) (g2 + 1 + 1)) (.st 1 (r3 ++ [[dnil]]) (A1 22 54) (g3 + 1 + 1)) [((A1 22 43), g2 + 1 + 1), ((A1 22 54), g3 + 1 + 1)] i')) (.code X st)]) := by kernel_rfl
theorem ne2sf_0 (wd tk qr lr sr bw : A8) (r2 r3 : A8) (g2 g3 : Nat) (i i' : Int) (q : Qr) (hs : A8) (X : X) (st : St) : AY CMd Ab 60 (.code 22 false (BE Tryz.prog 22 1) (ne2 wd tk qr lr sr bw (.d dnil) (.st 1 r2 (A1 22 43) g2) (.st 1 r3 (A1 22 54) g3) [((A1 22 43), g2), ((A1 22 54), g3)] i)) [(A1 22 31, .b true), (A1 22 39, .row q.cs), (A1 22 43, .app false), (A1 22 50, .row [.mn 2 hs]), (A1 22 52, .app false), (A1 22 54, .app false), (A1 22 33, .int i'), (A1 22 8001, .loop [1, 2, 4, 6] X st)] = some (.code X st, [], [decide (i < (qr.length : Int)) = true, 0 ≤ i ∧ qr[i.toNat]? = some q.cs, false = false ∧ g2 = g2 ∧ Am r2.length 1 8, 0 ≤ i ∧ sr[i.toNat]? = some [.mn 2 hs], hs.isEmpty = false ∧ Am 0 hs.length 16, false = false ∧ g3 = g3 ∧ Am r3.length 1 24, IntKind.wrap .i64 (i + 1) = i', Ev CMd Ab (.code 22 false (BE Tryz.prog 22 1) (ne2 wd tk qr lr sr bw (.d dnil) (.st 1 (r2 ++ [[du q.m]]) (A1 22 43) (g2 + 1 + 1)) (.st 1 (r3 ++ [[.sl 2 false hs]]) (A1 22 54) (g3 + 1 + 1)) [((A1 22 43), g2 + 1 + 1), ((A1 22 54), g3 + 1 + 1)] i')) (.code X st)]) := by kernel_rfl
theorem ne2ne_1 (wd tk qr lr sr bw : A8) (rows : A8) (g : Nat) (i i' : Int) (q : Qr) (hs : A8) (X : X) (st : St) : AY CMd Ab 60 (.code 22 false (BE Tryz.prog 22 1) (ne2 wd tk qr lr sr bw (.st 7 rows (A1 22 25) g) (.d dnil) (.d dnil) [((A1 22 25), g)] i)) [(A1 22 31, .b true), (A1 22 39, .row q.cs), (A1 22 43, .app false), (A1 22 50, .row [.mn 2 hs]), (A1 22 52, .app true), (A1 22 54, .app false), (A1 22 33, .int i'), (A1 22 8001, .loop [1, 2, 4, 6] X st)] = some (.code X st, [], [decide (i < (qr.length : Int)) = true, 0 ≤ i ∧ qr[i.toNat]? = some q.cs, false = false ∧ Am 0 1 8, 0 ≤ i ∧ sr[i.toNat]? = some [.mn 2 hs], hs.isEmpty = true, false = false ∧ Am 0 1 24, IntKind.wrap .i64 (i + 1) = i', Ev CMd Ab (.code 22 false (BE Tryz.prog 22 1) (ne2 wd tk qr lr sr bw (.st 7 rows (A1 22 25) g) (.st 1 [[du q.m]] (A1 22 43) 1) (.st 1 [[dnil]] (A1 22 54) 1) [((A1 22 25), g), ((A1 22 43), 1), ((A1 22 54), 1)] i')) (.code X st)]) := by kernel_rfl
theorem ne2nf_1 (wd tk qr lr sr bw : A8) (rows : A8) (g : Nat) (i i' : Int) (q : Qr) (hs : A8) (X : X) (st : St) : AY CMd Ab 60 (.code 22 false (BE Tryz.prog 22 1) (ne2 wd tk qr lr sr bw (.st 7 rows (A1 22 25) g) (.d dnil) (.d dnil) [((A1 22 25), g)] i)) [(A1 22 31, .b true), (A1 22 39, .row q.cs), (A1 22 43, .app false), (A1 22 50, .row [.mn 2 hs]), (A1 22 52, .app false), (A1 22 54, .app false), (A1 22 33, .int i'), (A1 22 8001, .loop [1, 2, 4, 6] X st)] = some (.code X st, [], [decide (i < (qr.length : Int)) = true, 0 ≤ i ∧ qr[i.toNat]? = some q.cs, false = false ∧ Am 0 1 8, 0 ≤ i ∧ sr[i.toNat]? = some [.mn 2 hs], hs.isEmpty = false ∧ Am 0 hs.length 16, false = false ∧ Am 0 1 24, IntKind.wrap .i64 (i + 1) = i', Ev CMd Ab (.code 22 false (BE Tryz.prog 22 1) (ne2 wd tk qr lr sr bw (.st 7 rows (A1 22 25) g) (.st 1 [[du q.m]] (A1 22 43) 1) (.st 1 [[.sl 2 false hs]] (A1 22 54) 1) [((A1 22 25), g), ((A1 22 43), 1), ((A1 22 54), 1)] i')) (.code X st)]) := by kernel_rfl
theorem ne2se_1 (wd tk qr lr sr bw : A8) (r2 r3 : A8) (g2 g3 : Nat) (rows : A8) (g : Nat) (i i' : Int) (q : Qr) (hs : A8) (X : X) (st : St) : AY CMd Ab 60 (.code 22 false (BE Tryz.prog 22 1) (ne2 wd tk qr lr sr bw (.st 7 rows (A1 22 25) g) (.st 1 r2 (A1 22 43) g2) (.st 1 r3 (A1 22 54) g3) [((A1 22 25), g), ((A1 22 43), g2), ((A1 22 54), g3)] i)) [(A1 22 31, .b true), (A1 22 39, .row q.cs), (A1 22 43, .app false), (A1 22 50, .row [.mn 2 hs]), (A1 22 52, .app true), (A1 22 54, .app false), (A1 22 33, .int i'), (A1 22 8001, .loop [1, 2, 4, 6] X st)] = some (.code X st, [], [decide (i < (qr.length : Int)) = true, 0 ≤ i ∧ qr[i.toNat]? = some q.cs, false = false ∧ g2 = g2 ∧ Am r2.length 1 8, 0 ≤ i ∧ sr[i.toNat]? = some [.mn 2 hs], hs.isEmpty = true, false = false ∧ g3 = g3 ∧ Am r3.length 1 24, IntKind.wrap .i64 (i + 1) = i', Ev CMd Ab (.code 22 false (BE Tryz.prog 22 1) (ne2 wd tk qr lr sr bw (.st 7 rows (A1 22 25) g) (.st 1 (r2 ++ [[du q.m]]) (A1 22 43) (g2 + 1 + 1)) (.st 1 (r3 ++ [[dnil]]) (A1 22 54) (g3 + 1 + 1)) [((A1 22 25), g), ((A1 22 43), g2 + 1 + 1), ((A1 22 54), g3 + 1 + 1)] i')) (.code X st)]) := by kernel_rfl
theorem ne2sf_1 (wd tk qr lr sr bw : A8) (r2 r3 : A8) (g2 g3 : Nat) (rows : A8) (g : Nat) (i i' : Int) (q : Qr) (hs : A8) (X : X) (st : St) : AY CMd Ab 60 (.code 22 false (BE Tryz.prog 22 1) (ne2 wd tk qr lr sr bw (.st 7 rows (A1 22 25) g) (.st 1 r2 (A1 22 43) g2) (.st 1 r3 (A1 22 54) g3) [((A1 22 25), g), ((A1 22 43), g2), ((A1 22 54), g3)] i)) [(A1 22 31, .b true), (A1 22 39, .row q.cs), (A1 22 43, .app false), (A1 22 50, .row [.mn 2 hs]), (A1 22 52, .app false), (A1 22 54, .app false), (A1 22 33, .int i'), (A1 22 8001, .loop [1, 2, 4, 6] X st)] = some (.code X st, [], [decide (i < (qr.length : Int)) = true, 0 ≤ i ∧ qr[i.toNat]? = some q.cs, false = false ∧ g2 = g2 ∧ Am r2.length 1 8, 0 ≤ i ∧ sr[i.toNat]? = some [.mn 2 hs], hs.isEmpty = false ∧ Am 0 hs.length 16, false = false ∧ g3 = g3 ∧ Am r3.length 1 24, IntKind.wrap .i64 (i + 1) = i', Ev CMd Ab (.code 22 false (BE Tryz.prog 22 1) (ne2 wd tk qr lr sr bw (.st 7 rows (A1 22 25) g) (.st 1 (r2 ++ [[du q.m]]) (A1 22 43) (g2 + 1 + 1)) (.st 1 (r3 ++ [[.sl 2 false hs]]) (A1 22 54) (g3 + 1 + 1)) [((A1 22 25), g), ((A1 22 43), g2 + 1 + 1), ((A1 22 54), g3 + 1 + 1)] i')) (.code X st)]) := by kernel_rfl
theorem new_bad (wd tk qr lr sr bw : A8) : Cs CMd Ab 60 22 [.agg (AM wd tk qr lr sr bw)] [(A1 22 8, .prim [A3 false])] = some ([.agg [dnil, dnil, dnil], A5 4], [], [wrS [.agg (AM wd tk qr lr sr bw)] = some [A3 false]]) := by kernel_rfl
theorem new_0 (wd tk qr lr sr bw : A8) (r2 r3 : A8) (g2 g3 : Nat) : Cs CMd Ab 60 22 [.agg (AM wd tk qr lr sr bw)] [(A1 22 8, .prim [A3 true]), (A1 22 8001, .loop [1, 2, 4, 5] (.exit 0) (ne1O wd tk qr lr sr bw (.d dnil) [])), (A1 22 8001, .loop [1, 2, 4, 6] (.exit 2) (ne2O wd tk qr lr sr bw (.d dnil) (.st 1 r2 (A1 22 43) g2) (.st 1 r3 (A1 22 54) g3) [((A1 22 43), g2), ((A1 22 54), g3)]))] = some ([.agg [dnil, .sl 1 false r2, .sl 1 false r3], A5 0], [], [wrS [.agg (AM wd tk qr lr sr bw)] = some [A3 true], Ev CMd Ab (.code 22 false (BE Tryz.prog 22 0) (ne1 wd tk qr lr sr bw (.d dnil) [] 0)) (.code (.exit 0) (ne1O wd tk qr lr sr bw (.d dnil) [])), Ev CMd Ab (.code 22 false (BE Tryz.prog 22 1) (ne2 wd tk qr lr sr bw (.d dnil) (.d dnil) (.d dnil) [] 0)) (.code (.exit 2) (ne2O wd tk qr lr sr bw (.d dnil) (.st 1 r2 (A1 22 43) g2) (.st 1 r3 (A1 22 54) g3) [((A1 22 43), g2), ((A1 22 54), g3)]))]) := by kernel_rfl
theorem new_1 (wd tk qr lr sr bw : A8) (rows : A8) (g : Nat) (r2 r3 : A8) (g2 g3 : Nat) : Cs CMd Ab 60 22 [.agg (AM wd tk qr lr sr bw)] [(A1 22 8, .prim [A3 true]), (A1 22 8001, .loop [1, 2, 4, 5] (.exit 0) (ne1O wd tk qr lr sr bw (.st 7 rows (A1 22 25) g) [((A1 22 25), g)])), (A1 22 8001, .loop [1, 2, 4, 6] (.exit 2) (ne2O wd tk qr lr sr bw (.st 7 rows (A1 22 25) g) (.st 1 r2 (A1 22 43) g2) (.st 1 r3 (A1 22 54) g3) [((A1 22 25), g), ((A1 22 43), g2), ((A1 22 54), g3)]))] = some ([.agg [.sl 7 false rows, .sl 1 false r2, .sl 1 false r3], A5 0], [], [wrS [.agg (AM wd tk qr lr sr bw)] = some [A3 true], Ev CMd Ab (.code 22 false (BE Tryz.prog 22 0) (ne1 wd tk qr lr sr bw (.d dnil) [] 0)) (.code (.exit 0) (ne1O wd tk qr lr sr bw (.st 7 rows (A1 22 25) g) [((A1 22 25), g)])), Ev CMd Ab (.code 22 false (BE Tryz.prog 22 1) (ne2 wd tk qr lr sr bw (.st 7 rows (A1 22 25) g) (.d dnil) (.d dnil) [((A1 22 25), g)] 0)) (.code (.exit 2) (ne2O wd tk qr lr sr bw (.st 7 rows (A1 22 25) g) (.st 1 r2 (A1 22 43) g2) (.st 1 r3 (A1 22 54) g3) [((A1 22 25), g), ((A1 22 43), g2), ((A1 22 54), g3)]))]) := by kernel_rfl
theorem ne_l1 (w : Wld) (ok : w.Ok) (hw : WR w) : ∀ (d i : Nat), i + d = w.words.length → Ev CMd Ab (.code 22 false (BE Tryz.prog 22 0) (ne1 (An w.words) (Aq w.tasks) (Ak w.queues) (As w.lists) (Ao w.stops) (A6 w.bys) (apR 7 (A1 22 25) (itT w i)) (Ct (A1 22 25) (itT w i)) i)) (.code (.exit 0) (ne1O (An w.words) (Aq w.tasks) (Ak w.queues) (As w.lists) (Ao w.stops) (A6 w.bys) (apR 7 (A1 22 25) (itT w w.words.length)) (Ct (A1 22 25) (itT w w.words.length))))
 | 0, i, h => by
  obtain rfl : i = w.words.length := by omega
  exact Ac (ne1_exit (An w.words) (Aq w.tasks) (Ak w.queues) (As w.lists) (Ao w.stops) (A6 w.bys) _ _ _) (A0 (by rw [Be]; exact dge (by omega)) A2)
 | d + 1, i, h => by
  have hi : i < w.words.length := by omega
  have hnw := ok.nw
  have ih := ne_l1 w ok hw d (i + 1) (by omega)
  have hid := idS_at ok (hw.sin hi) (hw.snR hi)
  have b0 : decide ((i : Int) < ((An w.words).length : Int)) = true := by rw [Be]; exact dlt (by omega)
  have wr : IntKind.wrap .i64 ((i : Int) + 1) = ((i + 1 : Nat) : Int) := Ag (by omega)
  have hmi : i < (mIts w).length := by rw [mIts_len]; exact hi
  have e1 : itT w (i + 1) = itT w i ++ [(mItm w i).cs] := by
   unfold itT
   rw [Cf hmi]
   simp [mIts]
  rw [e1] at ih
  cases i with
  | zero =>
   have e0 : itT w 0 = [] := rfl
   rw [e0] at ih ⊢
   exact Aa _ _ _ _ _ _ (ne1n (An w.words) (Aq w.tasks) (Ak w.queues) (As w.lists) (Ao w.stops) (A6 w.bys) ((0 : Nat) : Int) ((0 + 1 : Nat) : Int) (mItm w 0) _ _) (A0 b0 (A0 hid (A0 ⟨rfl, Av (by decide) (by decide)⟩ (A0 wr (A0 ih A2)))))
  | succ k =>
   obtain ⟨r, R, e2⟩ : ∃ r R, itT w (k + 1) = r :: R := Ce (by omega)
   obtain ⟨a1, a2⟩ := Bd 7 (A1 22 25) r (mItm w (k + 1)).cs R
   have hlen : (r :: R).length = k + 1 := by rw [← e2]; simp only [itT, List.length_map, List.length_take]; omega
   rw [e2, a1, a2] at ih
   rw [e2]
   exact Aa _ _ _ _ _ _ (ne1s (An w.words) (Aq w.tasks) (Ak w.queues) (As w.lists) (Ao w.stops) (A6 w.bys) (r :: R) (2 * R.length + 1) ((k + 1 : Nat) : Int) ((k + 1 + 1 : Nat) : Int) (mItm w (k + 1)) _ _) (A0 b0 (A0 hid (A0 ⟨rfl, rfl, Av (by omega) (by decide)⟩ (A0 wr (A0 ih A2)))))
def sqC (h : List Hnd) : List DV := [rowD 2 (Aj h)]
def sqT (w : Wld) (i : Nat) : A8 := (w.stops.take i).map sqC
theorem ne_l2_0 (w : Wld) (ok : w.Ok) (hw : WR w) : ∀ (d i : Nat), i + d = w.queues.length → Ev CMd Ab (.code 22 false (BE Tryz.prog 22 1) (ne2 (An w.words) (Aq w.tasks) (Ak w.queues) (As w.lists) (Ao w.stops) (A6 w.bys) (.d dnil) (apR 1 (A1 22 43) (mnT w i)) (apR 1 (A1 22 54) (sqT w i)) ([] ++ (Ct (A1 22 43) (mnT w i) ++ Ct (A1 22 54) (sqT w i))) i)) (.code (.exit 2) (ne2O (An w.words) (Aq w.tasks) (Ak w.queues) (As w.lists) (Ao w.stops) (A6 w.bys) (.d dnil) (apR 1 (A1 22 43) (mnT w w.queues.length)) (apR 1 (A1 22 54) (sqT w w.queues.length)) ([] ++ (Ct (A1 22 43) (mnT w w.queues.length) ++ Ct (A1 22 54) (sqT w w.queues.length)))))
 | 0, i, h => by
  obtain rfl : i = w.queues.length := by omega
  exact Ac (ne2_exit (An w.words) (Aq w.tasks) (Ak w.queues) (As w.lists) (Ao w.stops) (A6 w.bys) _ _ _ _ _) (A0 (by rw [AD]; exact dge (by omega)) A2)
 | d + 1, i, h => by
  have hi : i < w.queues.length := by omega
  have his : i < w.stops.length := by have := hw.stops; omega
  have hnq := ok.nq
  have ih := ne_l2_0 w ok hw d (i + 1) (by omega)
  have b0 : decide ((i : Int) < ((Ak w.queues).length : Int)) = true := by rw [AD]; exact dlt hi
  have hrq : 0 ≤ (i : Int) ∧ (Ak w.queues)[((i : Int)).toNat]? = some (qrOf w.queues[i]).cs := ⟨by omega, BH (List.getElem?_eq_getElem hi)⟩
  have hrs : 0 ≤ (i : Int) ∧ (Ao w.stops)[((i : Int)).toNat]? = some [.mn 2 (Aj w.stops[i])] := ⟨by omega, BG (List.getElem?_eq_getElem his)⟩
  have hns := ok.ns _ (List.getElem_mem his)
  have wr : IntKind.wrap .i64 ((i : Int) + 1) = ((i + 1 : Nat) : Int) := Ag (by omega)
  have e1 : mnT w (i + 1) = mnT w i ++ [[du (w.queues[i].m : Int)]] := Cf hi
  have e2 : sqT w (i + 1) = sqT w i ++ [sqC w.stops[i]] := Cf his
  rw [e1, e2] at ih
  cases i with
  | zero =>
   have f1 : mnT w 0 = [] := rfl
   have f2 : sqT w 0 = [] := rfl
   rw [f1, f2] at ih ⊢
   generalize w.stops[0] = sh at hrs hns ih
   cases sh with
   | nil => exact Aa _ _ _ _ _ _ (ne2ne_0 (An w.words) (Aq w.tasks) (Ak w.queues) (As w.lists) (Ao w.stops) (A6 w.bys) ((0 : Nat) : Int) ((0 + 1 : Nat) : Int) (qrOf w.queues[0]) [] _ _) (A0 b0 (A0 hrq (A0 ⟨rfl, Av (by decide) (by decide)⟩ (A0 hrs (A0 rfl (A0 ⟨rfl, Av (by decide) (by decide)⟩ (A0 wr (A0 ih A2))))))))
   | cons h1 hs => exact Aa _ _ _ _ _ _ (ne2nf_0 (An w.words) (Aq w.tasks) (Ak w.queues) (As w.lists) (Ao w.stops) (A6 w.bys) ((0 : Nat) : Int) ((0 + 1 : Nat) : Int) (qrOf w.queues[0]) (Aj (h1 :: hs)) _ _) (A0 b0 (A0 hrq (A0 ⟨rfl, Av (by decide) (by decide)⟩ (A0 hrs (A0 ⟨rfl, fits_many (by rw [AW]; omega)⟩ (A0 ⟨rfl, Av (by decide) (by decide)⟩ (A0 wr (A0 ih A2))))))))
  | succ k =>
   obtain ⟨r, R, g1⟩ : ∃ r R, mnT w (k + 1) = r :: R := Ce (by omega)
   obtain ⟨r', R', g2⟩ : ∃ r R, sqT w (k + 1) = r :: R := Ce (by omega)
   have l1 : (r :: R).length = k + 1 := by rw [← g1]; simp only [mnT, List.length_map, List.length_take]; omega
   have l2 : (r' :: R').length = k + 1 := by rw [← g2]; simp only [sqT, List.length_map, List.length_take]; omega
   obtain ⟨a1, a2⟩ := Bd 1 (A1 22 43) r [du (w.queues[k + 1].m : Int)] R
   obtain ⟨a3, a4⟩ := Bd 1 (A1 22 54) r' (sqC w.stops[k + 1]) R'
   rw [g1, g2, a1, a2, a3, a4] at ih
   rw [g1, g2]
   clear a3 a4
   generalize w.stops[k + 1] = sh at hrs hns ih
   cases sh with
   | nil => exact Aa _ _ _ _ _ _ (ne2se_0 (An w.words) (Aq w.tasks) (Ak w.queues) (As w.lists) (Ao w.stops) (A6 w.bys) (r :: R) (r' :: R') (2 * R.length + 1) (2 * R'.length + 1) ((k + 1 : Nat) : Int) ((k + 1 + 1 : Nat) : Int) (qrOf w.queues[k + 1]) [] _ _) (A0 b0 (A0 hrq (A0 ⟨rfl, rfl, Av (by omega) (by decide)⟩ (A0 hrs (A0 rfl (A0 ⟨rfl, rfl, Av (by omega) (by decide)⟩ (A0 wr (A0 ih A2))))))))
   | cons h1 hs => exact Aa _ _ _ _ _ _ (ne2sf_0 (An w.words) (Aq w.tasks) (Ak w.queues) (As w.lists) (Ao w.stops) (A6 w.bys) (r :: R) (r' :: R') (2 * R.length + 1) (2 * R'.length + 1) ((k + 1 : Nat) : Int) ((k + 1 + 1 : Nat) : Int) (qrOf w.queues[k + 1]) (Aj (h1 :: hs)) _ _) (A0 b0 (A0 hrq (A0 ⟨rfl, rfl, Av (by omega) (by decide)⟩ (A0 hrs (A0 ⟨rfl, fits_many (by rw [AW]; omega)⟩ (A0 ⟨rfl, rfl, Av (by omega) (by decide)⟩ (A0 wr (A0 ih A2))))))))
theorem ne_l2_1 (w : Wld) (ok : w.Ok) (hw : WR w) (rows : A8) (g : Nat) : ∀ (d i : Nat), i + d = w.queues.length → Ev CMd Ab (.code 22 false (BE Tryz.prog 22 1) (ne2 (An w.words) (Aq w.tasks) (Ak w.queues) (As w.lists) (Ao w.stops) (A6 w.bys) (.st 7 rows (A1 22 25) g) (apR 1 (A1 22 43) (mnT w i)) (apR 1 (A1 22 54) (sqT w i)) ([((A1 22 25), g)] ++ (Ct (A1 22 43) (mnT w i) ++ Ct (A1 22 54) (sqT w i))) i)) (.code (.exit 2) (ne2O (An w.words) (Aq w.tasks) (Ak w.queues) (As w.lists) (Ao w.stops) (A6 w.bys) (.st 7 rows (A1 22 25) g) (apR 1 (A1 22 43) (mnT w w.queues.length)) (apR 1 (A1 22 54) (sqT w w.queues.length)) ([((A1 22 25), g)] ++ (Ct (A1 22 43) (mnT w w.queues.length) ++ Ct (A1 22 54) (sqT w w.queues.length)))))
 | 0, i, h => by
  obtain rfl : i = w.queues.length := by omega
  exact Ac (ne2_exit (An w.words) (Aq w.tasks) (Ak w.queues) (As w.lists) (Ao w.stops) (A6 w.bys) _ _ _ _ _) (A0 (by rw [AD]; exact dge (by omega)) A2)
 | d + 1, i, h => by
  have hi : i < w.queues.length := by omega
  have his : i < w.stops.length := by have := hw.stops; omega
  have hnq := ok.nq
  have ih := ne_l2_1 w ok hw rows g d (i + 1) (by omega)
  have b0 : decide ((i : Int) < ((Ak w.queues).length : Int)) = true := by rw [AD]; exact dlt hi
  have hrq : 0 ≤ (i : Int) ∧ (Ak w.queues)[((i : Int)).toNat]? = some (qrOf w.queues[i]).cs := ⟨by omega, BH (List.getElem?_eq_getElem hi)⟩
  have hrs : 0 ≤ (i : Int) ∧ (Ao w.stops)[((i : Int)).toNat]? = some [.mn 2 (Aj w.stops[i])] := ⟨by omega, BG (List.getElem?_eq_getElem his)⟩
  have hns := ok.ns _ (List.getElem_mem his)
  have wr : IntKind.wrap .i64 ((i : Int) + 1) = ((i + 1 : Nat) : Int) := Ag (by omega)
  have e1 : mnT w (i + 1) = mnT w i ++ [[du (w.queues[i].m : Int)]] := Cf hi
  have e2 : sqT w (i + 1) = sqT w i ++ [sqC w.stops[i]] := Cf his
  rw [e1, e2] at ih
  cases i with
  | zero =>
   have f1 : mnT w 0 = [] := rfl
   have f2 : sqT w 0 = [] := rfl
   rw [f1, f2] at ih ⊢
   generalize w.stops[0] = sh at hrs hns ih
   cases sh with
   | nil => exact Aa _ _ _ _ _ _ (ne2ne_1 (An w.words) (Aq w.tasks) (Ak w.queues) (As w.lists) (Ao w.stops) (A6 w.bys) rows g ((0 : Nat) : Int) ((0 + 1 : Nat) : Int) (qrOf w.queues[0]) [] _ _) (A0 b0 (A0 hrq (A0 ⟨rfl, Av (by decide) (by decide)⟩ (A0 hrs (A0 rfl (A0 ⟨rfl, Av (by decide) (by decide)⟩ (A0 wr (A0 ih A2))))))))
   | cons h1 hs => exact Aa _ _ _ _ _ _ (ne2nf_1 (An w.words) (Aq w.tasks) (Ak w.queues) (As w.lists) (Ao w.stops) (A6 w.bys) rows g ((0 : Nat) : Int) ((0 + 1 : Nat) : Int) (qrOf w.queues[0]) (Aj (h1 :: hs)) _ _) (A0 b0 (A0 hrq (A0 ⟨rfl, Av (by decide) (by decide)⟩ (A0 hrs (A0 ⟨rfl, fits_many (by rw [AW]; omega)⟩ (A0 ⟨rfl, Av (by decide) (by decide)⟩ (A0 wr (A0 ih A2))))))))
  | succ k =>
   obtain ⟨r, R, g1⟩ : ∃ r R, mnT w (k + 1) = r :: R := Ce (by omega)
   obtain ⟨r', R', g2⟩ : ∃ r R, sqT w (k + 1) = r :: R := Ce (by omega)
   have l1 : (r :: R).length = k + 1 := by rw [← g1]; simp only [mnT, List.length_map, List.length_take]; omega
   have l2 : (r' :: R').length = k + 1 := by rw [← g2]; simp only [sqT, List.length_map, List.length_take]; omega
   obtain ⟨a1, a2⟩ := Bd 1 (A1 22 43) r [du (w.queues[k + 1].m : Int)] R
   obtain ⟨a3, a4⟩ := Bd 1 (A1 22 54) r' (sqC w.stops[k + 1]) R'
   rw [g1, g2, a1, a2, a3, a4] at ih
   rw [g1, g2]
   clear a3 a4
   generalize w.stops[k + 1] = sh at hrs hns ih
   cases sh with
   | nil => exact Aa _ _ _ _ _ _ (ne2se_1 (An w.words) (Aq w.tasks) (Ak w.queues) (As w.lists) (Ao w.stops) (A6 w.bys) (r :: R) (r' :: R') (2 * R.length + 1) (2 * R'.length + 1) rows g ((k + 1 : Nat) : Int) ((k + 1 + 1 : Nat) : Int) (qrOf w.queues[k + 1]) [] _ _) (A0 b0 (A0 hrq (A0 ⟨rfl, rfl, Av (by omega) (by decide)⟩ (A0 hrs (A0 rfl (A0 ⟨rfl, rfl, Av (by omega) (by decide)⟩ (A0 wr (A0 ih A2))))))))
   | cons h1 hs => exact Aa _ _ _ _ _ _ (ne2sf_1 (An w.words) (Aq w.tasks) (Ak w.queues) (As w.lists) (Ao w.stops) (A6 w.bys) (r :: R) (r' :: R') (2 * R.length + 1) (2 * R'.length + 1) rows g ((k + 1 : Nat) : Int) ((k + 1 + 1 : Nat) : Int) (qrOf w.queues[k + 1]) (Aj (h1 :: hs)) _ _) (A0 b0 (A0 hrq (A0 ⟨rfl, rfl, Av (by omega) (by decide)⟩ (A0 hrs (A0 ⟨rfl, fits_many (by rw [AW]; omega)⟩ (A0 ⟨rfl, rfl, Av (by omega) (by decide)⟩ (A0 wr (A0 ih A2))))))))
theorem AJ.post {C : Ctx} {g : FuncId} {spec spec' : List PV → Option (List PV)} (hS : AJ C g spec) (h : ∀ ps rs, spec' ps = some rs → ∃ rs0, spec ps = some rs0 ∧ ∀ (F : Nat → Nat → Prop) (w : World) (v : Value), RR F w rs0 v → RR F w rs v) : AJ C g spec' := by
 intro ps rs hs F w vs hF hG hvs
 obtain ⟨rs0, h2, h3⟩ := h ps rs hs
 refine (hS ps rs0 h2 F w vs hF hG hvs).mono ?_
 rintro e w' ⟨v, F', he, hb, hf, hn, hz, hr⟩
 exact ⟨v, F', he, hb, hf, hn, hz, h3 _ _ _ hr⟩
theorem rowD_dw (h : List Hnd) : DW (rowD 2 (Aj h)) (.mn 2 (Aj h)) := DW.rowD 2 (Aj h)
theorem rd_rows {F : Nat → Nat → Prop} {w : World} {sz : Nat} {f : Bool} {rows rows' : A8} {v : Value} (h : RD F w (.sl sz f rows) v) (hl : rows.length = rows'.length)
  (hd : ∀ (i : Nat) (r r' : List DV), rows[i]? = some r → rows'[i]? = some r' → r'.length = r.length ∧ ∀ (j : Nat) (y z : DV), r[j]? = some y → r'[j]? = some z → DW y z) : RD F w (.sl sz false rows') v := by
 cases h with
 | sl _ _ _ b o len cap xs hlen hcap hfull hsz hc hr =>
  have get : ∀ (i : Nat) (r' : List DV), rows'[i]? = some r' → ∃ r, rows[i]? = some r := fun i r' h => by
   have hi : i < rows.length := by rw [hl]; exact (List.getElem?_eq_some_iff.1 h).1
   exact ⟨_, List.getElem?_eq_getElem hi⟩
  refine .sl sz false rows' b o len cap xs (by omega) hcap (fun h => by cases h) (fun i r' h => ?_) (fun i j r' h hj => ?_) (fun i j r' z h hz => ?_)
  ·obtain ⟨r, e⟩ := get i r' h
   rw [(hd i r r' e h).1]
   exact hsz i r e
  ·obtain ⟨r, e⟩ := get i r' h
   exact hc i j r e hj
  ·obtain ⟨r, e⟩ := get i r' h
   obtain ⟨h1, h2⟩ := hd i r r' e h
   have hj : j < r.length := by rw [← h1]; exact (List.getElem?_eq_some_iff.1 hz).1
   exact (h2 j _ z (List.getElem?_eq_getElem hj) hz).rd (hr i j r _ e (List.getElem?_eq_getElem hj))
theorem rd_sq {F : Nat → Nat → Prop} {w : World} {l : List (List Hnd)} {v : Value} (h : RD F w (.mn 1 (l.map sqC)) v) : RD F w (.mn 1 (Ao l)) v := by
 generalize hg : l.map sqC = rows at h
 have hl : rows.length = l.length := by rw [← hg, List.length_map]
 cases h with
 | mn0 =>
  have : l = [] := List.eq_nil_of_length_eq_zero (by simpa using hl.symm)
  subst this
  exact .mn0 1
 | mne _ a c =>
  have : l = [] := List.eq_nil_of_length_eq_zero (by simpa using hl.symm)
  subst this
  exact .mne 1 a c
 | mn _ _ _ h =>
  refine .mn _ _ _ (rd_rows h (by rw [hl, srows_len]) fun i r r' e e' => ?_)
  subst hg
  rw [List.getElem?_map] at e
  simp only [Ao, List.getElem?_map] at e'
  cases hh : l[i]? with
  | none => rw [hh] at e; cases e
  | some x =>
   rw [hh] at e e'
   simp only [Option.map_some, Option.some.injEq] at e e'
   subst e; subst e'
   refine ⟨rfl, fun j y z hy hz => ?_⟩
   cases j with
   | zero =>
    simp only [sqC, List.getElem?_cons_zero, Option.some.injEq] at hy hz
    subst hy; subst hz
    exact rowD_dw x
   | succ j => simp [sqC] at hy
theorem rr_third {F : Nat → Nat → Prop} {w : World} {a b c c' : DV} {p : PV} {v : Value} (hc : ∀ v, RD F w c v → RD F w c' v) (h : RR F w [.agg [a, b, c], p] v) : RR F w [.agg [a, b, c'], p] v := by
 cases h with
 | many _ vs hn hp =>
  obtain ⟨hl, hr⟩ := hp
  refine .many _ _ (by simp) ⟨by simpa using hl, fun i q x hq hx => ?_⟩
  cases i with
  | zero =>
   simp only [List.getElem?_cons_zero, Option.some.injEq] at hq
   subst hq
   have h0 := hr 0 _ x rfl hx
   cases h0 with
   | agg _ us hl2 hr2 =>
    refine .agg _ us (by simpa using hl2) fun j y z hy hz => ?_
    match j with
    | 0 => exact hr2 0 y z hy hz
    | 1 => exact hr2 1 y z hy hz
    | 2 =>
     simp only [List.getElem?_cons_succ, List.getElem?_cons_zero, Option.some.injEq] at hy
     subst hy
     exact hc _ (hr2 2 c z rfl hz)
    | _ + 3 => simp at hy
  | succ i => exact hr (i + 1) q x (by simpa using hq) hx
def mdlQ (w : Wld) : List DV := if wR w = true then [.mn 7 (itrows (mIts w)), .mn 1 (mrows w.queues), .mn 1 (w.stops.map sqC)] else [.mn 7 [], .mn 1 [], .mn 1 []]
def neV : Option Wld → Option (List PV)
 | some w => some [.agg (mdlQ w), A5 (errO w)]
 | none => none
noncomputable def neS : Spec
 | [.agg cs] => neV (wldR cs)
 | _ => none
theorem ne_sat : AJ C0 22 neS := AJ.ctx (C := CMd) rfl rfl (Bh (O := Ab) hPMd (fun _ _ h => h.elim) Bm fun ps rs hs => by
 unfold neS at hs
 split at hs
 ·unfold neV at hs
  split at hs
  ·rename_i w hw
   simp only [Option.some.injEq] at hs; subst hs
   obtain ⟨rfl, ok⟩ := BY hw
   have hr := wrS_at ok
   unfold mdlQ errO
   cases h : wR w with
   | false =>
    rw [h] at hr
    exact ⟨_, _, WL.same _, wl2 (.nil 7) (.nil 1) (.nil 1), A4 (new_bad (An w.words) (Aq w.tasks) (Ak w.queues) (As w.lists) (Ao w.stops) (A6 w.bys)) (A0 hr A2)⟩
   | true =>
    rw [h] at hr
    rw [if_pos rfl, if_pos rfl]
    have hW := wR_parts h
    have k1 := ne_l1 w ok hW w.words.length 0 (by omega)
    have f0 : itT w 0 = [] := rfl
    have fa : itT w w.words.length = itrows (mIts w) := by unfold itT; rw [List.take_of_length_le (by rw [mIts_len]; omega)]; rfl
    have m0 : mnT w 0 = [] := rfl
    have s0 : sqT w 0 = [] := rfl
    have ma : mnT w w.queues.length = mrows w.queues := by unfold mnT; rw [List.take_of_length_le (by omega)]; rfl
    have sa : sqT w w.queues.length = w.stops.map sqC := by unfold sqT; rw [List.take_of_length_le (by have := hW.stops; omega)]
    have hq1 := hW.n1
    have hs1 := hW.stops
    rw [f0, fa] at k1
    obtain ⟨r2, R2, c2⟩ : ∃ r R, mrows w.queues = r :: R := by
     cases hc : mrows w.queues with
     | nil => have := congrArg List.length hc; simp [mrows] at this; rw [this] at hq1; simp at hq1
     | cons r R => exact ⟨r, R, rfl⟩
    obtain ⟨r3, R3, c3⟩ : ∃ r R, w.stops.map sqC = r :: R := by
     cases hc : w.stops.map sqC with
     | nil => have := congrArg List.length hc; simp at this; rw [this] at hs1; simp at hs1; omega
     | cons r R => exact ⟨r, R, rfl⟩
    cases ci : itrows (mIts w) with
    | nil =>
     have k2 := ne_l2_0 w ok hW w.queues.length 0 (by omega)
     rw [m0, s0, ma.trans c2, sa.trans c3] at k2
     rw [ci] at k1
     rw [c2, c3]
     exact ⟨_, _, WL.same _, wl2 (.nil 7) (.row 1 false _) (.row 1 false _), A4 (new_0 (An w.words) (Aq w.tasks) (Ak w.queues) (As w.lists) (Ao w.stops) (A6 w.bys) _ _ _ _) (A0 hr (A0 k1 (A0 k2 A2)))⟩
    | cons r R =>
     have k2 := ne_l2_1 w ok hW (r :: R) (2 * R.length + 1) w.queues.length 0 (by omega)
     rw [m0, s0, ma.trans c2, sa.trans c3] at k2
     rw [ci] at k1
     rw [c2, c3]
     exact ⟨_, _, WL.same _, wl2 (.row 7 false _) (.row 1 false _) (.row 1 false _), A4 (new_1 (An w.words) (Aq w.tasks) (Ak w.queues) (As w.lists) (Ao w.stops) (A6 w.bys) _ _ _ _ _ _) (A0 hr (A0 k1 (A0 k2 A2)))⟩
  ·cases hs
 ·cases hs)
theorem md_sat : AJ C0 22 moS := AJ.post ne_sat fun ps rs hs => by
 unfold moS at hs
 split at hs
 ·rename_i cs
  unfold moV at hs
  split at hs
  ·rename_i w hw
   simp only [Option.some.injEq] at hs; subst hs
   refine ⟨[.agg (mdlQ w), A5 (errO w)], by show neV (wldR cs) = _; rw [hw]; rfl, fun F u v hr => ?_⟩
   unfold mdlC
   unfold mdlQ at hr
   split
   ·rename_i h
    rw [if_pos h] at hr
    exact rr_third (fun _ => rd_sq) hr
   ·rename_i h
    rw [if_neg h] at hr
    exact hr
  ·cases hs
 ·cases hs
def oddW (w : Wld) (i : Int) : Int := if wR w = true then (if i < 0 ∨ i ≥ (w.words.length : Int) then 1 else 0) else 4
noncomputable def odS : Spec
 | [.agg cs, .one (.v (.int .i64 i))] => match wldR cs with
  | some w => some [A5 (oddW w i)]
  | none => none
 | _ => none
theorem odS_at {w : Wld} (ok : w.Ok) (i : Int) : odS [.agg w.cs, A5 i] = some [A5 (oddW w i)] := by
 show (match wldR w.cs with | some w => some [A5 (oddW w i)] | none => none) = _
 rw [wldR_cs ok]
theorem od_open {ps rs : List PV} (h : odS ps = some rs) : ∃ w i, w.Ok ∧ ps = [.agg w.cs, A5 i] ∧ rs = [A5 (oddW w i)] := by
 unfold odS at h
 split at h
 ·rename_i cs i
  split at h
  ·rename_i w hw
   obtain ⟨rfl, ok⟩ := BY hw
   simp only [Option.some.injEq] at h
   exact ⟨w, i, ok, rfl, h.symm⟩
  ·cases h
 ·cases h
noncomputable def COd : Ctx := Ad C0 33 wrS
theorem hPOd : Aw COd := A7 BN (cr_sat.ctx rfl rfl) (by kernel_rfl)
theorem od_sat : AJ C0 39 odS := AJ.ctx (C := COd) rfl rfl (Af (O := Ab) hPOd (fun _ _ h => h.elim) Bm fun ps rs hs => by
 obtain ⟨w, i, ok, rfl, rfl⟩ := od_open hs
 have hr := wrS_at ok
 unfold oddW
 cases h : wR w with
 | false =>
  rw [h] at hr
  exact vgo 60 (sl 39 [(7, .prim [A3 false])]) (A hr Z) (by kernel_rfl)
 | true =>
  rw [h] at hr
  rw [if_pos rfl]
  by_cases h1 : i < 0
  ·rw [if_pos (.inl h1)]
   exact vgo 60 (sl 39 [(7, .prim [A3 true]), (11, .b true)]) (A hr (A (decide_eq_true h1) Z)) (by kernel_rfl)
  ·have e1 := decide_eq_false h1
   by_cases h2 : i ≥ (w.words.length : Int)
   ·rw [if_pos (.inr h2)]
    rw [← Be] at h2
    exact vgo 60 (sl 39 [(7, .prim [A3 true]), (11, .b false), (18, .b true)]) (A hr (A e1 (A (decide_eq_true h2) Z))) (by kernel_rfl)
   ·rw [if_neg (by omega)]
    rw [← Be] at h2
    exact vgo 60 (sl 39 [(7, .prim [A3 true]), (11, .b false), (18, .b false)]) (A hr (A e1 (A (decide_eq_false h2) Z))) (by kernel_rfl))
theorem rT : true = true := rfl
def isAt (w : Wld) (i k c : Nat) : Bool := match w.queues[c]?, w.lists[c]? with
 | some q, some l => match q.ns[i]?, l.next[i]? with
  | some n, some y => if k = 0 then n.inn else if k = 1 then y != -2 else q.cur == (i : Int)
  | _, _ => false
 | _, _ => false
def wpK (w : Wld) (i k c : Nat) : A8 := (((List.range w.queues.length).drop c).filter (isAt w i k)).map fun c : Nat => [di (k : Int), di (c : Int)]
def wpA (w : Wld) (i : Nat) : A8 := wpK w i 0 0 ++ (wpK w i 1 0 ++ wpK w i 2 0)
theorem wpK_step {w : Wld} {i k c : Nat} (h : c < w.queues.length) : wpK w i k c = (if isAt w i k c then [[di (k : Int), di (c : Int)]] else []) ++ wpK w i k (c + 1) := by
 unfold wpK
 rw [List.drop_eq_getElem_cons (by simpa using h), List.filter_cons]
 simp only [List.getElem_range]
 split <;> simp
theorem wpK_end {w : Wld} {i k c : Nat} (h : w.queues.length ≤ c) : wpK w i k c = [] := by
 unfold wpK
 rw [List.drop_eq_nil_of_le (by simpa using h)]; rfl
theorem wpK_len (w : Wld) (i k : Nat) : (wpK w i k 0).length ≤ w.queues.length := by
 unfold wpK
 rw [List.length_map, List.drop_zero]
 exact Nat.le_trans (List.length_filter_le _ _) (by simp)
structure WhIn (w : Wld) (i c : Nat) (q : Que) (l : Lst) (n : Nod) (y : Int) : Prop where
 hq : 0 ≤ (c : Int) ∧ (Ak w.queues)[((c : Nat) : Int).toNat]? = some q.cs
 hl : 0 ≤ (c : Int) ∧ (As w.lists)[((c : Nat) : Int).toNat]? = some [di l.head, .mn 1 (A6 l.next)]
 hn : 0 ≤ (i : Int) ∧ (A9 q.ns)[((i : Nat) : Int).toNat]? = some [db n.inn, db n.red, du n.v, di n.l, di n.r, di n.u]
 hy : 0 ≤ (i : Int) ∧ (A6 l.next)[((i : Nat) : Int).toNat]? = some [di y]
 Bn : ∀ k, isAt w i k c = if k = 0 then n.inn else if k = 1 then y != -2 else q.cur == (i : Int)
theorem wh_in {w : Wld} (hW : WR w) {i c : Nat} (hi : i < w.words.length) (hc : c < w.queues.length) : ∃ q l n y, WhIn w i c q l n y := by
 obtain ⟨_, hqn, hln⟩ := (hW.sin hi).pl
 have hcl : c < w.lists.length := by have := hW.lists; omega
 have h1 := hqn _ (List.getElem_mem hc)
 have h2 := hln _ (List.getElem_mem hcl)
 refine ⟨w.queues[c], w.lists[c], w.queues[c].ns[i], w.lists[c].next[i], ⟨by omega, BH (List.getElem?_eq_getElem hc)⟩, ⟨by omega, lrows_at (List.getElem?_eq_getElem hcl)⟩,
  ⟨by omega, AS (List.getElem?_eq_getElem h1)⟩, ⟨by omega, B2 (List.getElem?_eq_getElem h2)⟩, fun k => ?_⟩
 unfold isAt
 rw [List.getElem?_eq_getElem hc, List.getElem?_eq_getElem hcl]
 simp only [List.getElem?_eq_getElem h1, List.getElem?_eq_getElem h2]
noncomputable def CWr : Ctx := Ad C0 39 odS
theorem hPWr : Aw CWr := A7 BN (od_sat.ctx rfl rfl) (by kernel_rfl)
def wvH (w : Wld) (t : AC) : H := { objs := [(A1 16 2, 1, [.cells (w.cs.map .d) false])], toks := t }
def wvHd (w : Wld) (i k : Nat) (a : AV) (t : AC) (c : Int) : St := { σ := Ap 62 [(1, vi i), (2, .ptr (A1 16 2) 0 0), (4, a), (7, vi k), (17, vi k), (21, .d (.mn 7 (Ak w.queues))), (22, vi (Ak w.queues).length), (23, vi c)], h := wvH w t }
def wvO (w : Wld) (i k : Nat) (a : AV) (t : AC) : St := { σ := Ap 62 [(1, vi i), (2, .ptr (A1 16 2) 0 0), (4, a), (17, vi k)], h := wvH w t }
def wvS (q : Que) (l : Lst) (n : Nod) (inn : Bool) (y : Int) (t1 t2 hit : Bool) (c' : Int) : Ah := sl 16 ([(24, .b true), (26, .row q.cs), (32, .row [db inn, db n.red, du n.v, di n.l, di n.r, di n.u]), (38, .row [di l.head, .mn 1 (A6 l.next)]), (42, .row [di y]), (44, .b t1), (48, .b t2)] ++
 (if hit then [(58, .app false)] else []) ++ [(59, .int c'), (8002, .drop [A1 16 9, A1 16 10] [1, 2, 4, 7, 17, 21, 22, 23])])
theorem wv_loop {w : Wld} (hW : WR w) {i k : Nat} (hi : i < w.words.length) (hk : k < 3) : ∀ (d c : Nat) (rows : A8) (a : AV) (t : AC), c + d = w.queues.length → OutOK 2 rows a t → rows.length + d < 1000 →
  ∃ a' t', OutOK 2 (rows ++ wpK w i k c) a' t' ∧ Ev CWr Ab (.code 16 false (BE Tryz.prog 16 1) (wvHd w i k a t c)) (.code (.exit 2) (wvO w i k a' t'))
 | 0, c, rows, a, t, hc, ha, hl => by
  rw [wpK_end (by omega), List.append_nil]
  exact ⟨a, t, ha, mgo 60 (sl 16 [(24, .b false)]) [1, 2, 4, 17] (A (by rw [AD]; exact dge (by omega) : decide ((c : Int) < ((Ak w.queues).length : Int)) = false) Z) (by kernel_rfl)⟩
 | d + 1, c, rows, a, t, hc, ha, hl => by
  have hcq : c < w.queues.length := by omega
  obtain ⟨q, l, n, y, hq, hli, hn, hy, hat⟩ := wh_in hW hi hcq
  have b0 : decide ((c : Int) < ((Ak w.queues).length : Int)) = true := by rw [AD]; exact dlt hcq
  have wr : IntKind.wrap .i64 ((c : Int) + 1) = ((c + 1 : Nat) : Int) := Ag (by have := hW.n64; omega)
  rw [wpK_step hcq]
  obtain ⟨t1, h1⟩ : ∃ t1, (y != -2) = t1 := ⟨_, rfl⟩
  obtain ⟨t2, h2⟩ : ∃ t2, (q.cur == (i : Int)) = t2 := ⟨_, rfl⟩
  obtain ⟨t0, h0⟩ : ∃ t0, n.inn = t0 := ⟨_, rfl⟩
  rw [h0] at hn
  have hz : isAt w i k c = if k = 0 then t0 else if k = 1 then t1 else t2 := by
   rw [hat k, h0, h1, h2]
  cases ha with
  | nil =>
   cases hh : isAt w i k c with
   | false =>
    rw [hh] at hz
    obtain ⟨a', t', e1, e2⟩ := wv_loop hW hi hk d (c + 1) _ _ t (by omega) (.nil t) (by simp at hl ⊢; omega)
    refine ⟨a', t', by simpa using e1, ?_⟩
    match k, hk with
    | 0, _ => obtain rfl : t0 = false := hz.symm; exact lgo 60 (wvS q l n false y t1 t2 false ((c + 1 : Nat) : Int)) [1, 2, 4, 7, 17, 21, 22, 23] (A b0 (A hq (A hn (A hli (A hy (A h1 (A h2 (A wr (A rT (A rT (A rT (A e2 Z)))))))))))) (by kernel_rfl)
    | 1, _ => obtain rfl : t1 = false := hz.symm; exact lgo 60 (wvS q l n t0 y false t2 false ((c + 1 : Nat) : Int)) [1, 2, 4, 7, 17, 21, 22, 23] (A b0 (A hq (A hn (A hli (A hy (A h1 (A h2 (A wr (A rT (A rT (A rT (A e2 Z)))))))))))) (by kernel_rfl)
    | 2, _ => obtain rfl : t2 = false := hz.symm; exact lgo 60 (wvS q l n t0 y t1 false false ((c + 1 : Nat) : Int)) [1, 2, 4, 7, 17, 21, 22, 23] (A b0 (A hq (A hn (A hli (A hy (A h1 (A h2 (A wr (A rT (A rT (A rT (A e2 Z)))))))))))) (by kernel_rfl)
   | true =>
    rw [hh] at hz
    obtain ⟨a', t', e1, e2⟩ := wv_loop hW hi hk d (c + 1) _ _ _ (by omega) (OutOK.app0 (B := A1 16 58) (t := t) [di (k : Int), di (c : Int)]) (by simp at hl ⊢; omega)
    refine ⟨a', t', by simpa using e1, ?_⟩
    have ft : false = false ∧ Am 0 1 16 := ⟨rfl, Av (by decide) (by decide)⟩
    match k, hk with
    | 0, _ => obtain rfl : t0 = true := hz.symm; exact lgo 60 (wvS q l n true y t1 t2 true ((c + 1 : Nat) : Int)) [1, 2, 4, 7, 17, 21, 22, 23] (A b0 (A hq (A hn (A hli (A hy (A h1 (A h2 (A ft (A wr (A rT (A rT (A rT (A e2 Z))))))))))))) (by kernel_rfl)
    | 1, _ => obtain rfl : t1 = true := hz.symm; exact lgo 60 (wvS q l n t0 y true t2 true ((c + 1 : Nat) : Int)) [1, 2, 4, 7, 17, 21, 22, 23] (A b0 (A hq (A hn (A hli (A hy (A h1 (A h2 (A ft (A wr (A rT (A rT (A rT (A e2 Z))))))))))))) (by kernel_rfl)
    | 2, _ => obtain rfl : t2 = true := hz.symm; exact lgo 60 (wvS q l n t0 y t1 true true ((c + 1 : Nat) : Int)) [1, 2, 4, 7, 17, 21, 22, 23] (A b0 (A hq (A hn (A hli (A hy (A h1 (A h2 (A ft (A wr (A rT (A rT (A rT (A e2 Z))))))))))))) (by kernel_rfl)
  | st _ s g _ hg =>
   cases hh : isAt w i k c with
   | false =>
    rw [hh] at hz
    obtain ⟨a', t', e1, e2⟩ := wv_loop hW hi hk d (c + 1) _ _ t (by omega) (.st rows s g t hg) (by omega)
    refine ⟨a', t', by simpa using e1, ?_⟩
    match k, hk with
    | 0, _ => obtain rfl : t0 = false := hz.symm; exact lgo 60 (wvS q l n false y t1 t2 false ((c + 1 : Nat) : Int)) [1, 2, 4, 7, 17, 21, 22, 23] (A b0 (A hq (A hn (A hli (A hy (A h1 (A h2 (A wr (A rT (A rT (A rT (A e2 Z)))))))))))) (by kernel_rfl)
    | 1, _ => obtain rfl : t1 = false := hz.symm; exact lgo 60 (wvS q l n t0 y false t2 false ((c + 1 : Nat) : Int)) [1, 2, 4, 7, 17, 21, 22, 23] (A b0 (A hq (A hn (A hli (A hy (A h1 (A h2 (A wr (A rT (A rT (A rT (A e2 Z)))))))))))) (by kernel_rfl)
    | 2, _ => obtain rfl : t2 = false := hz.symm; exact lgo 60 (wvS q l n t0 y t1 false false ((c + 1 : Nat) : Int)) [1, 2, 4, 7, 17, 21, 22, 23] (A b0 (A hq (A hn (A hli (A hy (A h1 (A h2 (A wr (A rT (A rT (A rT (A e2 Z)))))))))))) (by kernel_rfl)
   | true =>
    rw [hh] at hz
    obtain ⟨a', t', e1, e2⟩ := wv_loop hW hi hk d (c + 1) _ _ _ (by omega) (OutOK.app (B := A1 16 58) (s := s) (g := g) (rows := rows) (t := t) [di (k : Int), di (c : Int)]) (by simp at hl ⊢; omega)
    refine ⟨a', t', by simpa using e1, ?_⟩
    have ft : false = false ∧ BV s t = g ∧ Am rows.length 1 16 := ⟨rfl, hg, Av (by omega) (by decide)⟩
    match k, hk with
    | 0, _ => obtain rfl : t0 = true := hz.symm; exact lgo 60 (wvS q l n true y t1 t2 true ((c + 1 : Nat) : Int)) [1, 2, 4, 7, 17, 21, 22, 23] (A b0 (A hq (A hn (A hli (A hy (A h1 (A h2 (A ft (A wr (A rT (A rT (A rT (A e2 Z))))))))))))) (by kernel_rfl)
    | 1, _ => obtain rfl : t1 = true := hz.symm; exact lgo 60 (wvS q l n t0 y true t2 true ((c + 1 : Nat) : Int)) [1, 2, 4, 7, 17, 21, 22, 23] (A b0 (A hq (A hn (A hli (A hy (A h1 (A h2 (A ft (A wr (A rT (A rT (A rT (A e2 Z))))))))))))) (by kernel_rfl)
    | 2, _ => obtain rfl : t2 = true := hz.symm; exact lgo 60 (wvS q l n t0 y t1 true true ((c + 1 : Nat) : Int)) [1, 2, 4, 7, 17, 21, 22, 23] (A b0 (A hq (A hn (A hli (A hy (A h1 (A h2 (A ft (A wr (A rT (A rT (A rT (A e2 Z))))))))))))) (by kernel_rfl)
def wpR (w : Wld) (i : Int) : List PV := if oddW w i = 0 then [.one (.mn 2 (wpA w i.toNat)), A5 0] else [.one (.mn 2 []), A5 (oddW w i)]
noncomputable def wqS : Spec
 | [.agg cs, .one (.v (.int .i64 i))] => match wldR cs with
  | some w => some (wpR w i)
  | none => none
 | _ => none
theorem weS_at {w : Wld} (ok : w.Ok) (i : Int) : wqS [.agg w.cs, A5 i] = some (wpR w i) := by
 show (match wldR w.cs with | some w => some (wpR w i) | none => none) = _
 rw [wldR_cs ok]
theorem we_open {ps rs : List PV} (h : wqS ps = some rs) : ∃ w i, w.Ok ∧ ps = [.agg w.cs, A5 i] ∧ rs = wpR w i := by
 unfold wqS at h
 split at h
 ·rename_i cs i
  split at h
  ·rename_i w hw
   obtain ⟨rfl, ok⟩ := BY hw
   simp only [Option.some.injEq] at h
   exact ⟨w, i, ok, rfl, h.symm⟩
  ·cases h
 ·cases h
theorem odd_cases (w : Wld) (i : Int) : (wR w = false ∧ oddW w i = 4) ∨ (wR w = true ∧ (i < 0 ∨ (w.words.length : Int) ≤ i) ∧ oddW w i = 1) ∨ (wR w = true ∧ oddW w i = 0 ∧ ∃ n : Nat, i = n ∧ n < w.words.length) := by
 unfold oddW
 cases h : wR w with
 | false => exact .inl ⟨rfl, rfl⟩
 | true =>
  rw [if_pos rfl]
  by_cases h1 : i < 0 ∨ i ≥ (w.words.length : Int)
  ·exact .inr (.inl ⟨rfl, h1, if_pos h1⟩)
  ·refine .inr (.inr ⟨rfl, if_neg h1, i.toNat, by omega, by omega⟩)
theorem outOK_res {sz : Nat} {rows : A8} {a : AV} {t : AC} (h : OutOK sz rows a t) : (a = .d dnil ∧ rows = []) ∨ ∃ s g, a = .st sz rows s g := by
 cases h with
 | nil => exact .inl ⟨rfl, rfl⟩
 | st _ s g _ _ => exact .inr ⟨s, g, rfl⟩
theorem wq_sat : AJ C0 16 wqS := AJ.ctx (C := CWr) rfl rfl (Bh (O := Ab) hPWr (fun _ _ h => h.elim) Bm fun ps rs hs => by
 obtain ⟨w, i, ok, rfl, rfl⟩ := we_open hs
 have ho := odS_at ok i
 unfold wpR
 rcases odd_cases w i with ⟨_, h⟩ | ⟨_, _, h⟩ | ⟨hR, h, n, rfl, hn⟩
 ·rw [h] at ho ⊢
  exact ⟨_, _, WL.same _, WL.cons (.one (.nil 2)) (WL.same _), vgo 60 (sl 16 [(13, .prim [A5 4])]) (A ho Z) (by kernel_rfl)⟩
 ·rw [h] at ho ⊢
  exact ⟨_, _, WL.same _, WL.cons (.one (.nil 2)) (WL.same _), vgo 60 (sl 16 [(13, .prim [A5 1])]) (A ho Z) (by kernel_rfl)⟩
 ·rw [h] at ho ⊢
  rw [if_pos rfl]
  have hW := wR_parts hR
  have h64 := hW.n64
  have l0 := wpK_len w n 0
  have l1 := wpK_len w n 1
  obtain ⟨a1, t1, o1, e1⟩ := wv_loop hW hn (k := 0) (by decide) w.queues.length 0 [] (.d dnil) [] (by omega) (.nil _) (by simp; omega)
  obtain ⟨a2, t2, o2, e2⟩ := wv_loop hW hn (k := 1) (by decide) w.queues.length 0 _ a1 t1 (by omega) o1 (by simp; omega)
  obtain ⟨a3, t3, o3, e3⟩ := wv_loop hW hn (k := 2) (by decide) w.queues.length 0 _ a2 t2 (by omega) o2 (by simp; omega)
  have er : [] ++ wpK w n 0 0 ++ wpK w n 1 0 ++ wpK w n 2 0 = wpA w n := by simp [wpA]
  rw [er] at o3
  rw [Int.toNat_natCast]
  have T := A ho (A (rfl : decide ((0 : Int) < 3) = true) (A e1 (A (rfl : decide ((1 : Int) < 3) = true) (A e2 (A (rfl : decide ((2 : Int) < 3) = true) (A e3 (A (rfl : decide ((3 : Int) < 3) = false) Z)))))))
  rcases outOK_res o3 with ⟨rfl, h0⟩ | ⟨s, g, rfl⟩
  ·rw [h0]
   exact ⟨_, _, WL.same _, WL.cons (.one (.nil 2)) (WL.same _), vgo 60 (sl 16 [(13, .prim [A5 0]), (18, .b true), (8001, .loop [1, 2, 4, 7, 17, 21, 22, 23] (.exit 2) (wvO w n 0 a1 t1)), (18, .b true), (8001, .loop [1, 2, 4, 7, 17, 21, 22, 23] (.exit 2) (wvO w n 1 a2 t2)), (18, .b true), (8001, .loop [1, 2, 4, 7, 17, 21, 22, 23] (.exit 2) (wvO w n 2 (.d dnil) t3)), (18, .b false)]) T (by kernel_rfl)⟩
  ·exact ⟨_, _, WL.same _, WL.cons (.one (.row 2 false _)) (WL.same _), vgo 60 (sl 16 [(13, .prim [A5 0]), (18, .b true), (8001, .loop [1, 2, 4, 7, 17, 21, 22, 23] (.exit 2) (wvO w n 0 a1 t1)), (18, .b true), (8001, .loop [1, 2, 4, 7, 17, 21, 22, 23] (.exit 2) (wvO w n 1 a2 t2)), (18, .b true), (8001, .loop [1, 2, 4, 7, 17, 21, 22, 23] (.exit 2) (wvO w n 2 (.st 2 (wpA w n) s g) t3)), (18, .b false)]) T (by kernel_rfl)⟩)
noncomputable def CWe : Ctx := Ad C0 46 wrS
theorem hPWe : Aw CWe := A7 BN (dr_sat.ctx rfl rfl) (by kernel_rfl)
def weHd (w : Wld) (i k : Nat) (a : AV) (t : AC) (c : Int) : St := { σ := Ap 89 [(1, vi i), (2, .ptr (A1 23 2) 0 0), (6, a), (7 + k, vi c)], h := { objs := [(A1 23 2, 1, [.cells (w.cs.map .d) false])], toks := t } }
def weO (w : Wld) (i : Nat) (a : AV) (t : AC) : St := { σ := Ap 89 [(1, vi i), (2, .ptr (A1 23 2) 0 0), (6, a)], h := { objs := [(A1 23 2, 1, [.cells (w.cs.map .d) false])], toks := t } }
def weS0 (q : Que) (n : Nod) (hit : Bool) (c' : Int) : Ah := sl 23 ([(27, .b true), (33, .row q.cs), (38, .row [db hit, db n.red, du n.v, di n.l, di n.r, di n.u])] ++ (if hit then [(45, .app false)] else []) ++ [(29, .int c')])
def weS1 (l : Lst) (y : Int) (hit : Bool) (c' : Int) : Ah := sl 23 ([(50, .b true), (56, .row [di l.head, .mn 1 (A6 l.next)]), (60, .row [di y]), (62, .b hit)] ++ (if hit then [(67, .app false)] else []) ++ [(52, .int c')])
def weS2 (q : Que) (hit : Bool) (c' : Int) : Ah := sl 23 ([(72, .b true), (78, .row q.cs), (82, .b hit)] ++ (if hit then [(87, .app false)] else []) ++ [(74, .int c')])
theorem Cz {w : Wld} (hW : WR w) {i k : Nat} (hi : i < w.words.length) (hk : k < 3) : ∀ (d c : Nat) (rows : A8) (a : AV) (t : AC), c + d = w.queues.length → OutOK 2 rows a t → rows.length + d < 1000 →
  ∃ a' t', OutOK 2 (rows ++ wpK w i k c) a' t' ∧ Ev CWe Ab (.code 23 false (BE Tryz.prog 23 k) (weHd w i k a t c)) (.code (.exit (2 * k)) (weO w i a' t'))
 | 0, c, rows, a, t, hc, ha, hl => by
  rw [wpK_end (by omega), List.append_nil]
  have b0 : decide ((c : Int) < ((Ak w.queues).length : Int)) = false := by rw [AD]; exact dge (by omega)
  refine ⟨a, t, ha, ?_⟩
  match k, hk with
  | 0, _ => exact mgo 60 (sl 23 [(27, .b false)]) [1, 2, 6] (A b0 Z) (by kernel_rfl)
  | 1, _ => exact mgo 60 (sl 23 [(50, .b false)]) [1, 2, 6] (A b0 Z) (by kernel_rfl)
  | 2, _ => exact mgo 60 (sl 23 [(72, .b false)]) [1, 2, 6] (A b0 Z) (by kernel_rfl)
 | d + 1, c, rows, a, t, hc, ha, hl => by
  have hcq : c < w.queues.length := by omega
  obtain ⟨q, l, n, y, hq, hli, hn, hy, hat⟩ := wh_in hW hi hcq
  have b0 : decide ((c : Int) < ((Ak w.queues).length : Int)) = true := by rw [AD]; exact dlt hcq
  have wr : IntKind.wrap .i64 ((c : Int) + 1) = ((c + 1 : Nat) : Int) := Ag (by have := hW.n64; omega)
  rw [wpK_step hcq]
  obtain ⟨b, hb⟩ : ∃ b, isAt w i k c = b := ⟨_, rfl⟩
  have hz := hat k
  rw [hb] at hz ⊢
  match k, hk with
  | 0, _ =>
   obtain rfl : b = n.inn := hz
   cases b : n.inn with
   | false =>
    rw [b] at hn
    obtain ⟨a', t', e1, e2⟩ := Cz hW hi (k := 0) (by decide) d (c + 1) rows a t (by omega) ha (by omega)
    exact ⟨a', t', by simpa using e1, lgo 60 (weS0 q n false ((c + 1 : Nat) : Int)) [1, 2, 6, 7] (A b0 (A hq (A hn (A wr (A e2 Z))))) (by kernel_rfl)⟩
   | true =>
    rw [b] at hn
    cases ha with
    | nil =>
     obtain ⟨a', t', e1, e2⟩ := Cz hW hi (k := 0) (by decide) d (c + 1) _ _ _ (by omega) (OutOK.app0 (B := A1 23 45) (t := t) [di ((0 : Nat) : Int), di (c : Int)]) (by simp at hl ⊢; omega)
     exact ⟨a', t', by simpa using e1, lgo 60 (weS0 q n true ((c + 1 : Nat) : Int)) [1, 2, 6, 7] (A b0 (A hq (A hn (A (⟨rfl, Av (by decide) (by decide)⟩ : false = false ∧ Am 0 1 16) (A wr (A e2 Z)))))) (by kernel_rfl)⟩
    | st _ s g _ hg =>
     obtain ⟨a', t', e1, e2⟩ := Cz hW hi (k := 0) (by decide) d (c + 1) _ _ _ (by omega) (OutOK.app (B := A1 23 45) (s := s) (g := g) (rows := rows) (t := t) [di ((0 : Nat) : Int), di (c : Int)]) (by simp at hl ⊢; omega)
     exact ⟨a', t', by simpa using e1, lgo 60 (weS0 q n true ((c + 1 : Nat) : Int)) [1, 2, 6, 7] (A b0 (A hq (A hn (A (⟨rfl, hg, Av (by omega) (by decide)⟩ : false = false ∧ BV s t = g ∧ Am rows.length 1 16) (A wr (A e2 Z)))))) (by kernel_rfl)⟩
  | 1, _ =>
   obtain rfl : b = (y != -2) := hz
   cases b : (y != -2) with
   | false =>
    obtain ⟨a', t', e1, e2⟩ := Cz hW hi (k := 1) (by decide) d (c + 1) rows a t (by omega) ha (by omega)
    exact ⟨a', t', by simpa using e1, lgo 60 (weS1 l y false ((c + 1 : Nat) : Int)) [1, 2, 6, 8] (A b0 (A hli (A hy (A b (A wr (A e2 Z)))))) (by kernel_rfl)⟩
   | true =>
    cases ha with
    | nil =>
     obtain ⟨a', t', e1, e2⟩ := Cz hW hi (k := 1) (by decide) d (c + 1) _ _ _ (by omega) (OutOK.app0 (B := A1 23 67) (t := t) [di ((1 : Nat) : Int), di (c : Int)]) (by simp at hl ⊢; omega)
     exact ⟨a', t', by simpa using e1, lgo 60 (weS1 l y true ((c + 1 : Nat) : Int)) [1, 2, 6, 8] (A b0 (A hli (A hy (A b (A (⟨rfl, Av (by decide) (by decide)⟩ : false = false ∧ Am 0 1 16) (A wr (A e2 Z))))))) (by kernel_rfl)⟩
    | st _ s g _ hg =>
     obtain ⟨a', t', e1, e2⟩ := Cz hW hi (k := 1) (by decide) d (c + 1) _ _ _ (by omega) (OutOK.app (B := A1 23 67) (s := s) (g := g) (rows := rows) (t := t) [di ((1 : Nat) : Int), di (c : Int)]) (by simp at hl ⊢; omega)
     exact ⟨a', t', by simpa using e1, lgo 60 (weS1 l y true ((c + 1 : Nat) : Int)) [1, 2, 6, 8] (A b0 (A hli (A hy (A b (A (⟨rfl, hg, Av (by omega) (by decide)⟩ : false = false ∧ BV s t = g ∧ Am rows.length 1 16) (A wr (A e2 Z))))))) (by kernel_rfl)⟩
  | 2, _ =>
   obtain rfl : b = (q.cur == (i : Int)) := hz
   cases b : (q.cur == (i : Int)) with
   | false =>
    obtain ⟨a', t', e1, e2⟩ := Cz hW hi (k := 2) (by decide) d (c + 1) rows a t (by omega) ha (by omega)
    exact ⟨a', t', by simpa using e1, lgo 60 (weS2 q false ((c + 1 : Nat) : Int)) [1, 2, 6, 9] (A b0 (A hq (A b (A wr (A e2 Z))))) (by kernel_rfl)⟩
   | true =>
    cases ha with
    | nil =>
     obtain ⟨a', t', e1, e2⟩ := Cz hW hi (k := 2) (by decide) d (c + 1) _ _ _ (by omega) (OutOK.app0 (B := A1 23 87) (t := t) [di ((2 : Nat) : Int), di (c : Int)]) (by simp at hl ⊢; omega)
     exact ⟨a', t', by simpa using e1, lgo 60 (weS2 q true ((c + 1 : Nat) : Int)) [1, 2, 6, 9] (A b0 (A hq (A b (A (⟨rfl, Av (by decide) (by decide)⟩ : false = false ∧ Am 0 1 16) (A wr (A e2 Z)))))) (by kernel_rfl)⟩
    | st _ s g _ hg =>
     obtain ⟨a', t', e1, e2⟩ := Cz hW hi (k := 2) (by decide) d (c + 1) _ _ _ (by omega) (OutOK.app (B := A1 23 87) (s := s) (g := g) (rows := rows) (t := t) [di ((2 : Nat) : Int), di (c : Int)]) (by simp at hl ⊢; omega)
     exact ⟨a', t', by simpa using e1, lgo 60 (weS2 q true ((c + 1 : Nat) : Int)) [1, 2, 6, 9] (A b0 (A hq (A b (A (⟨rfl, hg, Av (by omega) (by decide)⟩ : false = false ∧ BV s t = g ∧ Am rows.length 1 16) (A wr (A e2 Z)))))) (by kernel_rfl)⟩
theorem wf_sat : AJ C0 23 wqS := AJ.ctx (C := CWe) rfl rfl (Bh (O := Ab) hPWe (fun _ _ h => h.elim) Bm fun ps rs hs => by
 obtain ⟨w, i, ok, rfl, rfl⟩ := we_open hs
 have hr := wrS_at ok
 unfold wpR
 rcases odd_cases w i with ⟨hR, h⟩ | ⟨hR, hi, h⟩ | ⟨hR, h, n, rfl, hn⟩
 ·rw [hR] at hr
  rw [h]
  exact ⟨_, _, WL.same _, WL.cons (.one (.nil 2)) (WL.same _), vgo 60 (sl 23 [(11, .prim [A3 false])]) (A hr Z) (by kernel_rfl)⟩
 ·rw [hR] at hr
  rw [h]
  by_cases h1 : i < 0
  ·exact ⟨_, _, WL.same _, WL.cons (.one (.nil 2)) (WL.same _), vgo 60 (sl 23 [(11, .prim [A3 true]), (14, .b true)]) (A hr (A (decide_eq_true h1) Z)) (by kernel_rfl)⟩
  ·have h2 : i ≥ (w.words.length : Int) := by omega
   rw [← Be] at h2
   exact ⟨_, _, WL.same _, WL.cons (.one (.nil 2)) (WL.same _), vgo 60 (sl 23 [(11, .prim [A3 true]), (14, .b false), (21, .b true)]) (A hr (A (decide_eq_false h1) (A (decide_eq_true h2) Z))) (by kernel_rfl)⟩
 ·rw [hR] at hr
  rw [h, if_pos rfl]
  have hW := wR_parts hR
  have h64 := hW.n64
  have l0 := wpK_len w n 0
  have l1 := wpK_len w n 1
  obtain ⟨a1, t1, o1, e1⟩ := Cz hW hn (k := 0) (by decide) w.queues.length 0 [] (.d dnil) [] (by omega) (.nil _) (by simp; omega)
  obtain ⟨a2, t2, o2, e2⟩ := Cz hW hn (k := 1) (by decide) w.queues.length 0 _ a1 t1 (by omega) o1 (by simp; omega)
  obtain ⟨a3, t3, o3, e3⟩ := Cz hW hn (k := 2) (by decide) w.queues.length 0 _ a2 t2 (by omega) o2 (by simp; omega)
  have er : [] ++ wpK w n 0 0 ++ wpK w n 1 0 ++ wpK w n 2 0 = wpA w n := by simp [wpA]
  rw [er] at o3
  rw [Int.toNat_natCast]
  have c1 : decide ((n : Int) < 0) = false := decide_eq_false (by omega)
  have c2 : decide ((n : Int) ≥ ((An w.words).length : Int)) = false := by rw [Be]; exact decide_eq_false (by omega)
  have T := A hr (A c1 (A c2 (A e1 (A e2 (A e3 Z)))))
  rcases outOK_res o3 with ⟨rfl, h0⟩ | ⟨s, g, rfl⟩
  ·rw [h0]
   exact ⟨_, _, WL.same _, WL.cons (.one (.nil 2)) (WL.same _), vgo 60 (sl 23 [(11, .prim [A3 true]), (14, .b false), (21, .b false), (8001, .loop [1, 2, 6, 7] (.exit 0) (weO w n a1 t1)), (8001, .loop [1, 2, 6, 8] (.exit 2) (weO w n a2 t2)), (8001, .loop [1, 2, 6, 9] (.exit 4) (weO w n (.d dnil) t3))]) T (by kernel_rfl)⟩
  ·exact ⟨_, _, WL.same _, WL.cons (.one (.row 2 false _)) (WL.same _), vgo 60 (sl 23 [(11, .prim [A3 true]), (14, .b false), (21, .b false), (8001, .loop [1, 2, 6, 7] (.exit 0) (weO w n a1 t1)), (8001, .loop [1, 2, 6, 8] (.exit 2) (weO w n a2 t2)), (8001, .loop [1, 2, 6, 9] (.exit 4) (weO w n (.st 2 (wpA w n) s g) t3))]) T (by kernel_rfl)⟩)
def penW (w : Wld) (n : Nat) : Bool := match w.words[n]? with
 | some x => ((At x).kind : Int) != 0 && (match w.stops[(At x).cpu]? with
  | some l => l.contains ((n : Int), ((At x).gen : Int))
  | none => false)
 | none => false
def pnR (w : Wld) (i : Int) : List PV := if oddW w i = 0 then [A3 (penW w i.toNat), A5 0] else [A3 false, A5 (oddW w i)]
noncomputable def wiS (f : Wld → Int → List PV) : Spec
 | [.agg cs, .one (.v (.int .i64 i))] => match wldR cs with
  | some w => some (f w i)
  | none => none
 | _ => none
theorem wiS_at {w : Wld} (ok : w.Ok) (f : Wld → Int → List PV) (i : Int) : wiS f [.agg w.cs, A5 i] = some (f w i) := by
 show (match wldR w.cs with | some w => some (f w i) | none => none) = _
 rw [wldR_cs ok]
theorem wi_open {f : Wld → Int → List PV} {ps rs : List PV} (h : wiS f ps = some rs) : ∃ w i, w.Ok ∧ ps = [.agg w.cs, A5 i] ∧ rs = f w i := by
 unfold wiS at h
 split at h
 ·rename_i cs i
  split at h
  ·rename_i w hw
   obtain ⟨rfl, ok⟩ := BY hw
   simp only [Option.some.injEq] at h
   exact ⟨w, i, ok, rfl, h.symm⟩
  ·cases h
 ·cases h
theorem pen_parts {w : Wld} (ok : w.Ok) (hR : wR w = true) {n : Nat} (hn : n < w.words.length) : ∃ x hs, w.words[n]? = some x ∧ Ck x = true ∧ (0 ≤ ((At x).cpu : Int) ∧ (Ao w.stops)[((At x).cpu : Int).toNat]? = some [.mn 2 (Aj hs)]) ∧
  ctS [.one (.mn 2 (Aj hs)), .agg [di (n : Int), di ((At x).gen : Int)]] = some [A3 (hs.contains ((n : Int), ((At x).gen : Int)))] ∧ penW w n = (((At x).kind : Int) != 0 && hs.contains ((n : Int), ((At x).gen : Int))) ∧
  (meT (w.pla n x) = some 120 ∧ ((At x).kind : Int) = 0 ∨ ((At x).kind : Int) ≠ 0 ∧ ∃ t, meT (w.pla n x) = some t ∧ (t = 162 ∨ t = 163 ∨ t = 164 ∨ t = 165 ∨ t = 166)) := by
 have hW := wR_parts hR
 obtain ⟨x, t, q, h⟩ := it_ok (hW.sin hn) (hW.snR hn)
 have hc := (List.getElem?_eq_some_iff.1 h.hq).1
 have hst : w.stops[(At x).cpu]? = some (w.stops[(At x).cpu]'(by have := hW.stops; omega)) := List.getElem?_eq_getElem _
 refine ⟨x, _, h.hx, h.wo, ⟨by omega, BG hst⟩, ctS_at (x := ((n : Int), ((At x).gen : Int))) (hndM_mn _) (by have := ok.ns _ (List.mem_of_getElem? hst); omega), ?_, ?_⟩
 ·simp only [penW, h.hx, hst]
 ·by_cases h0 : ((At x).kind : Int) = 0
  ·refine .inl ⟨?_, h0⟩
   unfold meT
   exact if_pos h0
  ·refine .inr ⟨h0, ?_⟩
   rcases h.cases with ⟨e, _⟩ | ⟨e, _⟩ | ⟨e, _⟩ | ⟨e, _⟩ | ⟨e, _⟩ | ⟨e, _⟩
   ·exfalso
    unfold meT at e
    have hk : (w.pla n x).k = ((At x).kind : Int) := rfl
    rw [hk, if_neg h0] at e
    split at e
    ·cases e
    split at e
    ·cases e
    split at e
    ·cases e
    split at e
    ·cases e
    split at e
    ·cases e
    split at e
    ·split at e
     ·rename_i z _
      cases z <;> cases e
     ·cases e
    ·cases e
   ·exact ⟨_, e, by omega⟩
   ·exact ⟨_, e, by omega⟩
   ·exact ⟨_, e, by omega⟩
   ·exact ⟨_, e, by omega⟩
   ·exact ⟨_, e, by omega⟩
noncomputable def CPe : Ctx := Ad (Ad (Ad (Ad C0 39 odS) 34 atS) 35 meS) 40 ctS
theorem hPPe : Aw CPe := A7 (A7 (A7 (A7 BN (od_sat.ctx rfl rfl) (by kernel_rfl)) (at_sat.ctx rfl rfl) (by kernel_rfl)) (me_sat.ctx rfl rfl) (by kernel_rfl)) (ctP_sat.ctx rfl rfl) (by kernel_rfl)
theorem pn_sat : AJ C0 18 (wiS pnR) := AJ.ctx (C := CPe) rfl rfl (Af (O := Ab) hPPe (fun _ _ h => h.elim) Bm fun ps rs hs => by
 obtain ⟨w, i, ok, rfl, rfl⟩ := wi_open hs
 have ho := odS_at ok i
 unfold pnR
 rcases odd_cases w i with ⟨_, h⟩ | ⟨_, _, h⟩ | ⟨hR, h, n, rfl, hn⟩
 ·rw [h] at ho ⊢
  exact vgo 60 (sl 18 [(10, .prim [A5 4])]) (A ho Z) (by kernel_rfl)
 ·rw [h] at ho ⊢
  exact vgo 60 (sl 18 [(10, .prim [A5 1])]) (A ho Z) (by kernel_rfl)
 ·rw [h] at ho ⊢
  rw [if_pos rfl, Int.toNat_natCast]
  obtain ⟨x, hs, hx, wo, hst, hct, hp, hm⟩ := pen_parts ok hR hn
  have hat := atS_at ok hx wo
  rw [hp]
  rcases hm with ⟨hm, h0⟩ | ⟨h0, t, hm, ht⟩
  ·rw [h0]
   exact vgo 60 (sl 18 [(10, .prim [A5 0]), (16, .prim [.agg (w.pla n x).cs]), (18, .prim [.ifc 120 (w.pla n x).cs])]) (A ho (A hat (A (meS_at hm) Z))) (by kernel_rfl)
  ·have e : (((At x).kind : Int) != 0) = true := bne_iff_ne.2 h0
   rw [e, Bool.true_and]
   have T := A ho (A hat (A (meS_at hm) (A hst (A hct Z))))
   rcases ht with rfl | rfl | rfl | rfl | rfl
   ·exact vgo 60 (sl 18 [(10, .prim [A5 0]), (16, .prim [.agg (w.pla n x).cs]), (18, .prim [.ifc 162 (w.pla n x).cs]), (27, .row [.mn 2 (Aj hs)]), (34, .prim [A3 (hs.contains ((n : Int), ((At x).gen : Int)))])]) T (by kernel_rfl)
   ·exact vgo 60 (sl 18 [(10, .prim [A5 0]), (16, .prim [.agg (w.pla n x).cs]), (18, .prim [.ifc 163 (w.pla n x).cs]), (27, .row [.mn 2 (Aj hs)]), (34, .prim [A3 (hs.contains ((n : Int), ((At x).gen : Int)))])]) T (by kernel_rfl)
   ·exact vgo 60 (sl 18 [(10, .prim [A5 0]), (16, .prim [.agg (w.pla n x).cs]), (18, .prim [.ifc 164 (w.pla n x).cs]), (27, .row [.mn 2 (Aj hs)]), (34, .prim [A3 (hs.contains ((n : Int), ((At x).gen : Int)))])]) T (by kernel_rfl)
   ·exact vgo 60 (sl 18 [(10, .prim [A5 0]), (16, .prim [.agg (w.pla n x).cs]), (18, .prim [.ifc 165 (w.pla n x).cs]), (27, .row [.mn 2 (Aj hs)]), (34, .prim [A3 (hs.contains ((n : Int), ((At x).gen : Int)))])]) T (by kernel_rfl)
   ·exact vgo 60 (sl 18 [(10, .prim [A5 0]), (16, .prim [.agg (w.pla n x).cs]), (18, .prim [.ifc 166 (w.pla n x).cs]), (27, .row [.mn 2 (Aj hs)]), (34, .prim [A3 (hs.contains ((n : Int), ((At x).gen : Int)))])]) T (by kernel_rfl))
noncomputable def CPd : Ctx := Ad (Ad (Ad C0 23 wqS) 61 saS) 37 ctS
theorem hPPd : Aw CPd := A7 (A7 (A7 BN (wf_sat.ctx rfl rfl) (by kernel_rfl)) (sa_sat.ctx rfl rfl) (by kernel_rfl)) (ctD_sat.ctx rfl rfl) (by kernel_rfl)
theorem pd_sat : AJ C0 24 (wiS pnR) := AJ.ctx (C := CPd) rfl rfl (Af (O := Ab) hPPd (fun _ _ h => h.elim) Bm fun ps rs hs => by
 obtain ⟨w, i, ok, rfl, rfl⟩ := wi_open hs
 have ho := weS_at ok i
 unfold wpR at ho
 unfold pnR
 rcases odd_cases w i with ⟨_, h⟩ | ⟨_, _, h⟩ | ⟨hR, h, n, rfl, hn⟩
 ·rw [h] at ho ⊢
  exact vgo 60 (sl 24 [(12, .prim [.one (.mn 2 []), A5 4])]) (A ho Z) (by kernel_rfl)
 ·rw [h] at ho ⊢
  exact vgo 60 (sl 24 [(12, .prim [.one (.mn 2 []), A5 1])]) (A ho Z) (by kernel_rfl)
 ·rw [h] at ho ⊢
  rw [if_pos rfl, Int.toNat_natCast] at ho ⊢
  obtain ⟨x, hs, hx, wo, hst, hct, hp, hm⟩ := pen_parts ok hR hn
  have hat := saS_at ok hx wo
  rw [hp]
  by_cases h0 : ((At x).kind : Int) = 0
  ·have e : (((At x).kind : Int) != 0) = false := by rw [h0]; rfl
   rw [e, Bool.false_and]
   exact vgo 60 (sl 24 [(12, .prim [.one (.mn 2 (wpA w n)), A5 0]), (20, .prim [.agg (At x).cs]), (23, .b false)]) (A ho (A hat (A e Z))) (by kernel_rfl)
  ·have e : (((At x).kind : Int) != 0) = true := bne_iff_ne.2 h0
   rw [e, Bool.true_and]
   exact vgo 60 (sl 24 [(12, .prim [.one (.mn 2 (wpA w n)), A5 0]), (20, .prim [.agg (At x).cs]), (23, .b true), (29, .row [.mn 2 (Aj hs)]), (35, .prim [A3 (hs.contains ((n : Int), ((At x).gen : Int)))])]) (A ho (A hat (A e (A hst (A hct Z))))) (by kernel_rfl))
end Go.Ev
namespace Go.Ev
open Go Go.RowKit Go.Proofs
theorem neqT (a : Int) : (a != a) = false := by simp
def vItm (x : Itm) : Value := .agg #[.int .i64 x.k, .int .i64 x.c, .int .i64 x.g, .int .i64 x.n, .int .u64 x.m, .int .u64 x.v, .int .i64 x.l]
theorem itm_fields : fieldsOf Tryz.prog 59 = [(3, 0), (3, 1), (3, 2), (3, 3), (39, 4), (39, 5), (3, 6)] := by kernel_rfl
def pI (x : Itm) : Array Value := #[.int .i64 x.k, .int .i64 x.c, .int .i64 x.g, .int .i64 x.n, .int .u64 x.m, .int .u64 x.v, .int .i64 x.l]
theorem itm_p0 (x : Itm) : Ar Tryz.prog (part 3 (pI x) 0) = some (.int .i64 x.k) := by kernel_rfl
theorem itm_p1 (x : Itm) : Ar Tryz.prog (part 3 (pI x) 1) = some (.int .i64 x.c) := by kernel_rfl
theorem itm_p2 (x : Itm) : Ar Tryz.prog (part 3 (pI x) 2) = some (.int .i64 x.g) := by kernel_rfl
theorem itm_p3 (x : Itm) : Ar Tryz.prog (part 3 (pI x) 3) = some (.int .i64 x.n) := by kernel_rfl
theorem itm_p4 (x : Itm) : Ar Tryz.prog (part 39 (pI x) 4) = some (.int .u64 x.m) := by kernel_rfl
theorem itm_p5 (x : Itm) : Ar Tryz.prog (part 39 (pI x) 5) = some (.int .u64 x.v) := by kernel_rfl
theorem itm_p6 (x : Itm) : Ar Tryz.prog (part 3 (pI x) 6) = some (.int .i64 x.l) := by kernel_rfl
theorem itm_eq (x : Itm) : Ar Tryz.prog (Op.equal 59 (vItm x) (vItm x)) = some true := by
 show Ar Tryz.prog (Op.equalIn (9998 + 1 + 1) 59 (.agg (pI x)) (.agg (pI x))) = _
 rw [eq_struct' (by rw [itm_fields]; rfl), itm_fields]
 simp only [eqParts, itm_p0, itm_p1, itm_p2, itm_p3, itm_p4, itm_p5, itm_p6, eq_intK und3, eq_intK und39, beq_self_eq_true]
theorem und71 : Tryz.prog.underlying 71 = some (.array 2 3) := by kernel_rfl
theorem size3 : Ar Tryz.prog (sizeOf 3) = some 1 := by kernel_rfl
theorem pl_eq (x : Hnd) : Ar Tryz.prog (Op.equal 71 (vHnd x) (vHnd x)) = some true := by
 show Ar Tryz.prog (Op.equalIn (9998 + 1 + 1) 71 (vHnd x) (vHnd x)) = _
 unfold vHnd
 rw [Op.equalIn]
 simp only [Bf, still_und und71, size3]
 simp only [Std.Legacy.Range.forIn_eq_forIn_range', Std.Legacy.Range.size, Nat.sub_zero, Nat.add_sub_cancel, Nat.div_one, List.range'_succ, List.range'_zero, List.forIn_cons, List.forIn_nil, Bf, Nat.zero_mul, Nat.zero_add, Nat.mul_one, hnd_p0, hnd_p1, eq_intK und3, beq_self_eq_true, Option.bind_some]
 simp [Bf, BJ, hnd_p0, hnd_p1, eq_intK und3]
theorem hnd_same (x : Hnd) : Ar Tryz.prog (Op.equal 78 (vHnd x) (vHnd x)) = some true := by rw [hnd_eq, beq_self_eq_true]
open Classical in
noncomputable def plE : Spec
 | [.one a, .one b] => if a = b ∧ ∃ l : List Hnd, l.length < 2 ^ 20 ∧ a = .mn 2 (Aj l) then some [A3 true] else none
 | _ => none
theorem plE_at {l : List Hnd} (h : l.length < 2 ^ 20) : plE [.one (.mn 2 (Aj l)), .one (.mn 2 (Aj l))] = some [A3 true] := if_pos ⟨rfl, l, h, rfl⟩
def pqHd (l : List Hnd) (i : Int) : St := { σ := Ap 26 [(0, .d (.mn 2 (Aj l))), (1, .d (.mn 2 (Aj l))), (5, vi i)], h := {} }
def pqO : St := { σ := Ap 26 [], h := {} }
theorem pq_loop (l : List Hnd) (hl : l.length < 2 ^ 20) : ∀ (d i : Nat), i + d = l.length → Ev C0 Ab (.code 26 false (BE Tryz.prog 26 0) (pqHd l i)) (.code (.exit 0) pqO)
 | 0, i, h => mgo 60 (sl 26 [(14, .b false)]) [] (A (by rw [AW]; exact dge (by omega) : decide ((i : Int) < ((Aj l).length : Int)) = false) Z) (by kernel_rfl)
 | d + 1, i, h => by
  have hi : i < l.length := by omega
  have b0 : decide ((i : Int) < ((Aj l).length : Int)) = true := by rw [AW]; exact dlt hi
  have wr : IntKind.wrap .i64 ((i : Int) + 1) = ((i + 1 : Nat) : Int) := Ag (by omega)
  have r : 0 ≤ (i : Int) ∧ (Aj l)[((i : Nat) : Int).toNat]? = some [di l[i].1, di l[i].2] := ⟨by omega, hrows_at (List.getElem?_eq_getElem hi)⟩
  exact lgo 60 (sl 26 [(14, .b true), (19, .row [di l[i].1, di l[i].2]), (23, .row [di l[i].1, di l[i].2]), (25, .eqv true), (16, .int ((i + 1 : Nat) : Int))]) [0, 1, 5] (A b0 (A r (A r (A (pl_eq l[i]) (A wr (A (pq_loop l hl d (i + 1) (by omega)) Z)))))) (by kernel_rfl)
theorem pq_sat : AJ C0 26 plE := Af (O := Ab) BN (fun _ _ h => h.elim) Bm fun ps rs hs => by
 unfold plE at hs
 split at hs
 ·split at hs
  ·rename_i h
   obtain ⟨rfl, l, hl, rfl⟩ := h
   simp only [Option.some.injEq] at hs; subst hs
   exact vgo 60 (sl 26 [(10, .b false), (8001, .loop [0, 1, 5] (.exit 0) pqO)]) (A (neqT ((Aj l).length : Int)) (A (pq_loop l hl l.length 0 (by omega)) Z)) (by kernel_rfl)
  ·cases hs
 ·cases hs
def SmS (ss : List (List Hnd)) : Prop := ss.length < 2 ^ 20 ∧ ∀ l ∈ ss, l.length < 2 ^ 20
open Classical in
noncomputable def rwE : Spec
 | [.one a, .one b] => if a = b ∧ ∃ ss, SmS ss ∧ a = .mn 1 (Ao ss) then some [A3 true] else none
 | _ => none
theorem rwE_at {ss : List (List Hnd)} (h : SmS ss) : rwE [.one (.mn 1 (Ao ss)), .one (.mn 1 (Ao ss))] = some [A3 true] := if_pos ⟨rfl, ss, h, rfl⟩
def rwHd (ss : List (List Hnd)) (i : Int) : St := { σ := Ap 53 [(0, .d (.mn 1 (Ao ss))), (1, .d (.mn 1 (Ao ss))), (5, vi i)], h := {} }
def rwI (ss : List (List Hnd)) (i k : Int) : St := { σ := Ap 53 [(0, .d (.mn 1 (Ao ss))), (1, .d (.mn 1 (Ao ss))), (5, vi i), (6, vi k)], h := {} }
def rwO : St := { σ := Ap 53 [], h := {} }
theorem rw_in (ss : List (List Hnd)) (i : Nat) (l : List Hnd) (hl : l.length < 2 ^ 20) (h0 : 0 ≤ (i : Int) ∧ (Ao ss)[((i : Nat) : Int).toNat]? = some [.mn 2 (Aj l)]) : ∀ (d k : Nat), k + d = l.length →
  Ev C0 Ab (.code 62 false (BE Tryz.prog 62 1) (rwI ss i k)) (.code (.exit 2) (rwHd ss i))
 | 0, k, h => mgo 60 (sl 62 [(32, .row [.mn 2 (Aj l)]), (35, .b false)]) [0, 1, 5] (A h0 (A (by rw [AW]; exact dge (by omega) : decide ((k : Int) < ((Aj l).length : Int)) = false) Z)) (by kernel_rfl)
 | d + 1, k, h => by
  have hk : k < l.length := by omega
  have b0 : decide ((k : Int) < ((Aj l).length : Int)) = true := by rw [AW]; exact dlt hk
  have wr : IntKind.wrap .i64 ((k : Int) + 1) = ((k + 1 : Nat) : Int) := Ag (by omega)
  have r : 0 ≤ (k : Int) ∧ (Aj l)[((k : Nat) : Int).toNat]? = some [di l[k].1, di l[k].2] := ⟨by omega, hrows_at (List.getElem?_eq_getElem hk)⟩
  exact lgo 60 (sl 62 [(32, .row [.mn 2 (Aj l)]), (35, .b true), (40, .row [.mn 2 (Aj l)]), (43, .row [di l[k].1, di l[k].2]), (47, .row [.mn 2 (Aj l)]), (50, .row [di l[k].1, di l[k].2]), (52, .eqv true), (37, .int ((k + 1 : Nat) : Int))]) [0, 1, 5, 6]
   (A h0 (A b0 (A h0 (A r (A h0 (A r (A (hnd_same l[k]) (A wr (A (rw_in ss i l hl h0 d (k + 1) (by omega)) Z))))))))) (by kernel_rfl)
theorem rw_loop (ss : List (List Hnd)) (hs : SmS ss) : ∀ (d i : Nat), i + d = ss.length → Ev C0 Ab (.code 62 false (BE Tryz.prog 62 0) (rwHd ss i)) (.code (.exit 0) rwO)
 | 0, i, h => mgo 60 (sl 62 [(15, .b false)]) [] (A (by rw [srows_len]; exact dge (by omega) : decide ((i : Int) < ((Ao ss).length : Int)) = false) Z) (by kernel_rfl)
 | d + 1, i, h => by
  have hi : i < ss.length := by omega
  have h1 := hs.1
  have b0 : decide ((i : Int) < ((Ao ss).length : Int)) = true := by rw [srows_len]; exact dlt hi
  have wr : IntKind.wrap .i64 ((i : Int) + 1) = ((i + 1 : Nat) : Int) := Ag (by omega)
  have r : 0 ≤ (i : Int) ∧ (Ao ss)[((i : Nat) : Int).toNat]? = some [.mn 2 (Aj ss[i])] := ⟨by omega, BG (List.getElem?_eq_getElem hi)⟩
  exact lgo 60 (sl 62 [(15, .b true), (20, .row [.mn 2 (Aj ss[i])]), (25, .row [.mn 2 (Aj ss[i])]), (28, .b false), (8001, .loop [0, 1, 5, 6] (.exit 2) (rwHd ss i)), (17, .int ((i + 1 : Nat) : Int))]) [0, 1, 5]
   (A b0 (A r (A r (A (neqT ((Aj ss[i]).length : Int)) (A (rw_in ss i ss[i] (hs.2 _ (List.getElem_mem hi)) r ss[i].length 0 (by omega)) (A wr (A (rw_loop ss hs d (i + 1) (by omega)) Z))))))) (by kernel_rfl)
theorem rw_sat : AJ C0 62 rwE := Af (O := Ab) BN (fun _ _ h => h.elim) Bm fun ps rs hs => by
 unfold rwE at hs
 split at hs
 ·split at hs
  ·rename_i h
   obtain ⟨rfl, ss, hl, rfl⟩ := h
   simp only [Option.some.injEq] at hs; subst hs
   exact vgo 60 (sl 62 [(11, .b false), (8001, .loop [0, 1, 5] (.exit 0) rwO)]) (A (neqT ((Ao ss).length : Int)) (A (rw_loop ss hl ss.length 0 (by omega)) Z)) (by kernel_rfl)
  ·cases hs
 ·cases hs
def urows (l : List Int) : A8 := l.map fun m => [du m]
theorem urows_at {l : List Int} {i : Nat} {m : Int} (h : l[i]? = some m) : (urows l)[((i : Nat) : Int).toNat]? = some [du m] := by simp [urows, h]
theorem itrows_at {l : List Itm} {i : Nat} {x : Itm} (h : l[i]? = some x) : (itrows l)[((i : Nat) : Int).toNat]? = some [di x.k, di x.c, di x.g, di x.n, du x.m, du x.v, di x.l] := by simp [itrows, h]; rfl
def modC (its : List Itm) (ms : List Int) (ss : List (List Hnd)) : List DV := [.mn 7 (itrows its), .mn 1 (urows ms), .mn 1 (Ao ss)]
open Classical in
noncomputable def smE : Spec
 | [.agg a, .agg b] => if a = b ∧ ∃ its ms ss, its.length < 2 ^ 20 ∧ ms.length < 2 ^ 20 ∧ SmS ss ∧ a = modC its ms ss then some [A3 true] else none
 | _ => none
theorem smE_at {its : List Itm} {ms : List Int} {ss : List (List Hnd)} (h1 : its.length < 2 ^ 20) (h2 : ms.length < 2 ^ 20) (h3 : SmS ss) : smE [.agg (modC its ms ss), .agg (modC its ms ss)] = some [A3 true] := if_pos ⟨rfl, its, ms, ss, h1, h2, h3, rfl⟩
noncomputable def CSm : Ctx := Ad C0 62 rwE
theorem hPSm : Aw CSm := A7 BN rw_sat (by kernel_rfl)
def smH (a : List DV) : H := { objs := [(A1 25 2, 1, [.cells (a.map .d) false]), (A1 25 3, 1, [.cells (a.map .d) false])] }
def smHd (a : List DV) (k : Nat) (i : Int) : St := { σ := Ap 73 [(2, .ptr (A1 25 2) 0 0), (3, .ptr (A1 25 3) 0 0), (k, vi i)], h := smH a }
def smO (a : List DV) : St := { σ := Ap 73 [(2, .ptr (A1 25 2) 0 0), (3, .ptr (A1 25 3) 0 0)], h := smH a }
section
variable (its : List Itm) (ms : List Int) (ss : List (List Hnd)) (h1 : its.length < 2 ^ 20) (h2 : ms.length < 2 ^ 20)
include h1 in
theorem sm_l0 : ∀ (d i : Nat), i + d = its.length → Ev CSm Ab (.code 25 false (BE Tryz.prog 25 0) (smHd (modC its ms ss) 5 i)) (.code (.exit 0) (smO (modC its ms ss)))
 | 0, i, h => mgo 60 (sl 25 [(36, .b false)]) [2, 3] (A (by rw [itrows, List.length_map]; exact dge (by omega) : decide ((i : Int) < ((itrows its).length : Int)) = false) Z) (by kernel_rfl)
 | d + 1, i, h => by
  have hi : i < its.length := by omega
  have b0 : decide ((i : Int) < ((itrows its).length : Int)) = true := by rw [itrows, List.length_map]; exact dlt hi
  have wr : IntKind.wrap .i64 ((i : Int) + 1) = ((i + 1 : Nat) : Int) := Ag (by omega)
  obtain ⟨x, hx⟩ : ∃ x, its[i]? = some x := ⟨_, List.getElem?_eq_getElem hi⟩
  have r : 0 ≤ (i : Int) ∧ (itrows its)[((i : Nat) : Int).toNat]? = some [di x.k, di x.c, di x.g, di x.n, du x.m, du x.v, di x.l] := ⟨by omega, itrows_at hx⟩
  exact lgo 60 (sl 25 [(36, .b true), (42, .row x.cs), (47, .row x.cs), (49, .eqv true), (38, .int ((i + 1 : Nat) : Int))]) [2, 3, 5] (A b0 (A r (A r (A (itm_eq x) (A wr (A (sm_l0 d (i + 1) (by omega)) Z)))))) (by kernel_rfl)
include h2 in
theorem sm_l1 : ∀ (d i : Nat), i + d = ms.length → Ev CSm Ab (.code 25 false (BE Tryz.prog 25 1) (smHd (modC its ms ss) 6 i)) (.code (.exit 2) (smO (modC its ms ss)))
 | 0, i, h => mgo 60 (sl 25 [(54, .b false)]) [2, 3] (A (by rw [urows, List.length_map]; exact dge (by omega) : decide ((i : Int) < ((urows ms).length : Int)) = false) Z) (by kernel_rfl)
 | d + 1, i, h => by
  have hi : i < ms.length := by omega
  have b0 : decide ((i : Int) < ((urows ms).length : Int)) = true := by rw [urows, List.length_map]; exact dlt hi
  have wr : IntKind.wrap .i64 ((i : Int) + 1) = ((i + 1 : Nat) : Int) := Ag (by omega)
  have r : 0 ≤ (i : Int) ∧ (urows ms)[((i : Nat) : Int).toNat]? = some [du ms[i]] := ⟨by omega, urows_at (List.getElem?_eq_getElem hi)⟩
  exact lgo 60 (sl 25 [(54, .b true), (60, .row [du ms[i]]), (65, .row [du ms[i]]), (67, .b false), (56, .int ((i + 1 : Nat) : Int))]) [2, 3, 6] (A b0 (A r (A r (A (neqT ms[i]) (A wr (A (sm_l1 d (i + 1) (by omega)) Z)))))) (by kernel_rfl)
end
theorem sm_sat : AJ C0 25 smE := AJ.ctx (C := CSm) rfl rfl (Af (O := Ab) hPSm (fun _ _ h => h.elim) Bm fun ps rs hs => by
 unfold smE at hs
 split at hs
 ·split at hs
  ·rename_i h
   obtain ⟨rfl, its, ms, ss, h1, h2, h3, rfl⟩ := h
   simp only [Option.some.injEq] at hs; subst hs
   exact vgo 60 (sl 25 [(13, .b false), (21, .b false), (30, .b false), (8001, .loop [2, 3, 5] (.exit 0) (smO (modC its ms ss))), (8001, .loop [2, 3, 6] (.exit 2) (smO (modC its ms ss))), (72, .prim [A3 true])])
    (A (neqT ((itrows its).length : Int)) (A (neqT ((urows ms).length : Int)) (A (neqT ((Ao ss).length : Int)) (A (sm_l0 its ms ss h1 its.length 0 (by omega)) (A (sm_l1 its ms ss h2 ms.length 0 (by omega)) (A (rwE_at h3) Z)))))) (by kernel_rfl)
  ·cases hs
 ·cases hs)
end Go.Ev
namespace Go.Ev
open Go Go.RowKit Go.Proofs
theorem eqT (a : Int) : (a == a) = true := by simp
theorem eqB (a : Bool) : (a == a) = true := by simp
theorem wp_hnds (w : Wld) (i : Int) : ∃ l e, wpR w i = [.one (.mn 2 (Aj l)), A5 e] ∧ l.length < 2 ^ 20 := by
 unfold wpR
 split
 ·rename_i h0
  let g : Nat → List Hnd := fun k => ((List.range w.queues.length).drop 0).filter (isAt w i.toNat k) |>.map fun c : Nat => ((k : Int), (c : Int))
  have e : ∀ k, wpK w i.toNat k 0 = Aj (g k) := fun k => by
   show _ = Aj (List.map _ _)
   simp only [wpK, Aj, List.map_map]
   rfl
  have hl : ∀ k, (g k).length ≤ w.queues.length := fun k => by
   show (List.map _ _).length ≤ _
   rw [List.length_map, List.drop_zero]
   exact Nat.le_trans (List.length_filter_le _ _) (by simp)
  have h64 : w.queues.length ≤ 64 := by
   rcases odd_cases w i with ⟨_, h'⟩ | ⟨_, _, h'⟩ | ⟨hR, _⟩
   ·omega
   ·omega
   ·exact (wR_parts hR).n64
  refine ⟨g 0 ++ (g 1 ++ g 2), 0, ?_, ?_⟩
  ·unfold wpA
   rw [e 0, e 1, e 2]
   simp only [Aj, List.map_append]
  ·have := hl 0
   have := hl 1
   have := hl 2
   simp only [List.length_append]
   omega
 ·exact ⟨[], _, rfl, by decide⟩
theorem pn_bool (w : Wld) (i : Int) : ∃ b e, pnR w i = [A3 b, A5 e] := by
 unfold pnR
 split
 ·exact ⟨_, _, rfl⟩
 ·exact ⟨_, _, rfl⟩
theorem mdl_mod (w : Wld) (ok : w.Ok) : ∃ its ms ss, mdlC w = modC its ms ss ∧ its.length < 2 ^ 20 ∧ ms.length < 2 ^ 20 ∧ SmS ss := by
 unfold mdlC
 split
 ·rename_i h
  have hW := wR_parts h
  refine ⟨mIts w, w.queues.map fun q => (q.m : Int), w.stops, ?_, by rw [mIts_len]; exact ok.nw, by rw [List.length_map]; exact ok.nq, ⟨by have := hW.stops; have := ok.nq; omega, ok.ns⟩⟩
  simp only [modC, urows, mrows, List.map_map]
  rfl
 ·exact ⟨[], [], [], rfl, by decide, by decide, ⟨by decide, by simp⟩⟩
noncomputable def CTo : Ctx := Ad (Ad (Ad (Ad (Ad (Ad (Ad (Ad C0 14 moS) 22 moS) 16 wqS) 23 wqS) 18 (wiS pnR)) 24 (wiS pnR)) 25 smE) 26 plE
theorem hPTo : Aw CTo := A7 (A7 (A7 (A7 (A7 (A7 (A7 (A7 BN (mo_sat.ctx rfl rfl) (by kernel_rfl)) (md_sat.ctx rfl rfl) (by kernel_rfl)) (wq_sat.ctx rfl rfl) (by kernel_rfl)) (wf_sat.ctx rfl rfl) (by kernel_rfl)) (pn_sat.ctx rfl rfl) (by kernel_rfl)) (pd_sat.ctx rfl rfl) (by kernel_rfl)) (sm_sat.ctx rfl rfl) (by kernel_rfl)) (pq_sat.ctx rfl rfl) (by kernel_rfl)
def tldR (w : Wld) (i : Int) : List PV := [A3 true]
theorem tld_sat : AJ C0 10 (wiS tldR) := AJ.ctx (C := CTo) rfl rfl (Af (O := Ab) hPTo (fun _ _ h => h.elim) Bm fun ps rs hs => by
 obtain ⟨w, i, ok, rfl, rfl⟩ := wi_open hs
 obtain ⟨its, ms, ss, em, h1, h2, h3⟩ := mdl_mod w ok
 have hm := moS_at ok
 rw [em] at hm
 obtain ⟨l, e2, ew, hl⟩ := wp_hnds w i
 obtain ⟨b, e3, ep⟩ := pn_bool w i
 have hw := weS_at ok i
 rw [ew] at hw
 have hp := wiS_at ok pnR i
 rw [ep] at hp
 exact vgo 60 (sl 10 [(19, .prim [.agg (modC its ms ss), A5 (errO w)]), (24, .prim [.agg (modC its ms ss), A5 (errO w)]), (30, .prim [.one (.mn 2 (Aj l)), A5 e2]), (36, .prim [.one (.mn 2 (Aj l)), A5 e2]), (42, .prim [A3 b, A5 e3]), (48, .prim [A3 b, A5 e3]), (53, .prim [A3 true]), (57, .b true), (62, .prim [A3 true]), (67, .b true), (72, .b true), (77, .b true)])
  (A hm (A hm (A hw (A hw (A hp (A hp (A (smE_at h1 h2 h3) (A (eqT (errO w)) (A (plE_at hl) (A (eqT e2) (A (eqB b) (A (eqT e3) Z)))))))))))) (by kernel_rfl))
end Go.Ev
