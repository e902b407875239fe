/- What the proof of this claim needs: part MK. No conditions. -/
import Derived.Test.YtmahogkfgjibjaaGreatDoorMC
import Derived.Test.YtmahogkfgjibjaaGreatDoorRows
set_option linter.unusedVariables false
set_option linter.unusedSimpArgs false

namespace Go.Ev
open Go Go.RowKit Go.Proofs

def vi (n : Int) : AV := .d (.v (.int .i64 n))
def vu (n : Int) : AV := .d (.v (.int .u64 n))
def vb (b : Bool) : AV := .d (.v (.bool b))
abbrev T : AV := .top
def pint (n : Int) : PV := .one (.v (.int .i64 n))
def pu (n : Int) : PV := .one (.v (.int .u64 n))
def pbool (b : Bool) : PV := .one (.v (.bool b))
def nilPV : PV := .one (.v (.slice none 0 0))
def di (n : Int) : DV := .v (.int .i64 n)
def du (n : Int) : DV := .v (.int .u64 n)
def db (b : Bool) : DV := .v (.bool b)
def dnil : DV := .v (.slice none 0 0)
def fnil : DV := .v .nilFunc
def fcell (f : Nat) : DV := .v (.func (.func f) #[] #[])
def spansG : List DV := [di 0, di 3, di 3, di 9, di 9, di 10, di 10, di 26, di 26, di 58]
def emptyG : List DV := [db false, db false, du 0, di (-1), di (-1), di (-1)]
def weightsG : List DV := [88761, 71755, 56483, 46273, 36291, 29154, 23254, 18705, 14949, 11916, 9548, 7620, 6100, 4904, 3906, 3121, 2501, 1991, 1586, 1277, 1024, 820, 655, 526, 423, 335, 272, 215, 172, 137, 110, 87, 70, 56, 45, 36, 29, 23, 18, 15].map di
def ofG (l : List Int) : DV := .sl 1 false (l.map fun k => [di k])
def ruleE (k : Int) (of : List Int) (to : Int) (a b : DV) : Value × Bool × List DV := (.int .i64 k, true, [ofG of, di to, a, b])
def rulesG : List (Value × Bool × List DV) := [ruleE 0 [0] 1 fnil (fcell 250), ruleE 1 [1, 3, 4, 5] 0 fnil (fcell 251), ruleE 2 [1] 2 fnil (fcell 252), ruleE 3 [2] 3 fnil fnil, ruleE 4 [2, 3] 4 fnil fnil, ruleE 5 [4] 5 fnil fnil, ruleE 6 [5] 4 fnil fnil, ruleE 7 [5] 7 fnil fnil,
  ruleE 8 [7] 7 (fcell 253) (fcell 254), ruleE 9 [7] 1 (fcell 253) fnil, ruleE 10 [7] 3 (fcell 255) fnil, ruleE 11 [5] 1 fnil (fcell 256), ruleE 12 [1] 1 fnil (fcell 256), ruleE 13 [4, 5] 6 fnil (fcell 256), ruleE 14 [6] 4 fnil fnil, ruleE 15 [4] 4 fnil (fcell 256)]
def kindE (k : Int) (a b c d e f : Bool) (x y : DV) : Value × Bool × List DV := (.int .i64 k, true, [db a, db b, db c, db d, db e, db f, x, y])
def kindsG : List (Value × Bool × List DV) := [kindE 1 false false true true false false (fcell 167) (fcell 168), kindE 2 true false false false false false (fcell 169) (fcell 170), kindE 3 true false false false false false fnil fnil, kindE 4 false true false false false false (fcell 171) (fcell 172),
  kindE 5 false true false false false false (fcell 171) (fcell 173), kindE 6 false true false false true false (fcell 171) (fcell 174), kindE 7 false true false false false false (fcell 171) (fcell 175), kindE 8 true true false false false false (fcell 176) (fcell 177),
  kindE 9 true false false true false false (fcell 178) (fcell 179), kindE 10 true false true false false false (fcell 169) (fcell 180), kindE 11 false true false false false true (fcell 181) (fcell 182), kindE 12 false true false false false false (fcell 171) (fcell 183), kindE 13 true false false false false false fnil fnil]
def globs : Nat → Option (List DV)
  | 0 => some [.tab kindsG]
  | 1 => some emptyG
  | 2 => some [.tab rulesG]
  | 3 => some spansG
  | 4 => some weightsG
  | _ => none
def clones : Nat → Option Nat
  | 53 => some 1
  | 54 => some 3
  | 55 => some 7
  | 56 => some 2
  | 57 => some 1
  | 100 => some 1
  | 130 => some 6
  | 134 => some 2
  | 198 => some 2
  | _ => none
def kps : List (Nat × Nat) := [(19, 16), (19, 44), (183, 38), (183, 44), (16, 85), (32, 18), (179, 17), (179, 33), (69, 14), (69, 16), (209, 11), (209, 13), (194, 12), (192, 8), (113, 18), (113, 25), (113, 57), (113, 63), (113, 69), (113, 78), (72, 28), (133, 48), (133, 60), (133, 81), (128, 12), (128, 17), (128, 27), (128, 30), (128, 35), (128, 40), (128, 57), (128, 22), (219, 53), (219, 79), (219, 88), (219, 98), (219, 107), (219, 114)]
def wrs : List (Nat × Nat) := [(69, 17), (209, 14), (194, 13), (192, 9)]
noncomputable def C0 : Ctx := { P := Tryz.prog, glob := globs, quiet := fun g => g == 228, np := fun f => if f == 203 then 5 else 0, kp := fun f t => kps.contains (f, t), clone := clones, wr := fun f t => ((clones f).isSome && t == 7) || [64, 38, 65].contains f || wrs.contains (f, t) }
theorem hm0 : Tryz.prog.follows .mixedOrders = true := by kernel_rfl
end Go.Ev

namespace Go.Ev
open Go Go.RowKit Go.Proofs
noncomputable def C1 : Ctx := addRun C0 500 [245, 8, 9, 10, 11, 12, 13, 14, 15, 52, 27, 28, 90, 119, 74, 76, 116, 148, 91, 92, 93, 120, 96, 138, 123, 106, 109]
noncomputable def C2 : Ctx := addRun C1 500 [244, 61, 87, 88, 89, 82, 84, 77, 145, 144, 94, 95, 62, 122, 64, 70, 121, 230, 33, 250, 251, 252, 253, 254, 255, 256, 220]
noncomputable def C3 : Ctx := addRun C2 500 [236, 137, 126, 99, 36, 63, 97, 204, 71, 46, 80, 208, 206, 98]
noncomputable def C4 : Ctx := addRun C3 500 [114, 66, 65, 37, 44, 72, 115, 67, 68, 41, 79]
noncomputable def C5 : Ctx := addRun C4 500 [216, 45, 107, 219, 108, 217, 38, 17]
noncomputable def C6 : Ctx := addRun C5 500 [69, 209, 194, 192, 193, 199, 20, 47]
/-- where a table goes by value -/
noncomputable def CA : Ctx := addRun C6 500 [53, 54, 184]
end Go.Ev

namespace Go.Ev
open Go Go.RowKit Go.Proofs
def node0 : List DV := [db false, db false, du 0, di (-1), di (-1), di (-1)]
def queue0 : List DV := [di (-1), .sl 6 false [node0, node0], di (-1), du 0, du 9, di 0, .sl 1 false [[di 0], [di 0]]]
def list0 : List DV := [di (-1), .sl 1 false [[di (-2)], [di (-2)]]]
def W0 : PV := .agg [.sl 1 false [[du 0], [du 0]], .sl 3 false [[di 0, du 0, di 0], [di 0, du 0, di 0]], .sl 7 false [queue0, queue0], .sl 2 false [list0, list0], .sl 1 false [[dnil], [dnil]], .sl 1 false [[di (-1)], [di (-1)], [di (-1)]]]
def callC : PV := .agg [di 1, di 0, di 0, di 0, di 0, di 0, du 3]
def W1 : PV := .agg [.sl 1 false [[du 67108865], [du 0]], .sl 3 false [[di 0, du 3, di 0], [di 0, du 0, di 0]], .sl 7 false [queue0, queue0], .sl 2 false [list0, list0], .sl 1 false [[dnil], [dnil]], .sl 1 false [[di (-1)], [di (-1)], [di (-1)]]]
def list1 : List DV := [di 0, .sl 1 false [[di (-1)], [di (-2)]]]
def W2 : PV := .agg [.sl 1 false [[du 67109891], [du 0]], .sl 3 false [[di 0, du 3, di 0], [di 0, du 0, di 0]], .sl 7 false [queue0, queue0], .sl 2 false [list1, list0], .sl 1 false [[dnil], [dnil]], .sl 1 false [[di (-1)], [di (-1)], [di (-1)]]]
def node1 : List DV := [db true, db false, du 9, di (-1), di (-1), di (-1)]
def queue1 : List DV := [di 0, .sl 6 false [node1, node0], di (-1), du 0, du 9, di 1024, .sl 1 false [[di 1024], [di 0]]]
def queue2 : List DV := [di (-1), .sl 6 false [node0, node0], di 0, du 9, du 9, di 1024, .sl 1 false [[di 1024], [di 0]]]
def callP : PV := .agg [di 7, di 0, di 0, di 0, di 0, di 0, du 0]
def W3 : PV := .agg [.sl 1 false [[du 67109893], [du 0]], .sl 3 false [[di 0, du 3, di 0], [di 0, du 0, di 0]], .sl 7 false [queue2, queue0], .sl 2 false [list0, list0], .sl 1 false [[dnil], [dnil]], .sl 1 false [[di (-1)], [di (-1)], [di (-1)]]]
def callM : PV := .agg [di 9, di 0, di 1, di 0, di 0, di 0, du 2]
def callS : PV := .agg [di 12, di 0, di 0, di 0, di 0, di 0, du 0]
end Go.Ev

namespace Go.Ev
open Go Go.RowKit Go.Proofs

def eqP : PV → PV → Bool
  | .one x, .one y => eqD x y
  | .agg a, .agg b => eqDL a b
  | _, _ => false
theorem eqP_eq {x y : PV} (h : eqP x y = true) : x = y := by
  unfold eqP at h
  split at h
  · rw [eqD_eq h]
  · rw [eqDL_eq h]
  · cases h
def eqPs : List PV → List PV → Bool
  | [], [] => true
  | a :: r, b :: s => eqP a b && eqPs r s
  | _, _ => false
theorem eqPs_eq : ∀ {x y : List PV}, eqPs x y = true → x = y
  | [], [], _ => rfl
  | a :: r, b :: s, h => by
    simp only [eqPs, Bool.and_eq_true] at h
    rw [eqP_eq h.1, eqPs_eq h.2]
  | [], _ :: _, h => by simp [eqPs] at h
  | _ :: _, [], h => by simp [eqPs] at h
abbrev Pts := List (List PV × List PV)
def atB : Pts → List PV → Option (List PV)
  | [], _ => none
  | (p, r) :: l, ps => if eqPs ps p then some r else atB l ps
theorem atB_mem {l : Pts} {ps rs : List PV} (h : atB l ps = some rs) : (ps, rs) ∈ l := by
  induction l with
  | nil => simp [atB] at h
  | cons x l ih =>
    obtain ⟨p, r⟩ := x
    simp only [atB] at h
    split at h
    · rename_i e
      simp only [Option.some.injEq] at h
      subst h
      rw [eqPs_eq e]
      exact List.mem_cons_self ..
    · exact List.mem_cons_of_mem _ (ih h)
theorem sat_atB {C : Ctx} (hP : PrimOK C) (hm : C.P.follows .mixedOrders = true) {n : Nat} {g : FuncId} {l : Pts} (h : ∀ p ∈ l, runSpec C n g p.1 = some p.2) : Sat C g (atB l) :=
  fun ps rs hs => sat_runSpec hP hm n g ps rs (h _ (atB_mem hs))
/-- the context in which a function is known at some points -/
def addAt (C : Ctx) (g : FuncId) (l : Pts) : Ctx := { C with prim := fun f => if f == g then some (atB l) else C.prim f }
theorem addAt_ok {C D : Ctx} (hP : PrimOK C) (hD : PrimOK D) (hm : D.P.follows .mixedOrders = true) (eP : D.P = C.P) (eg : D.glob = C.glob) {n : Nat} {g : FuncId} {l : Pts} (h : ∀ p ∈ l, runSpec D n g p.1 = some p.2) (hb : hasBody C g = true) : PrimOK (addAt C g l) := by
  refine ⟨?_, hP.2⟩
  intro f spec e
  simp only [addAt] at e
  split at e
  · rename_i hc
    simp only [Option.some.injEq] at e
    subst e
    have hc : f = g := by simpa using hc
    subst hc
    exact ⟨((sat_atB hD hm h).ctx eP.symm eg.symm).ctx rfl rfl, hasBody_eq hb⟩
  · obtain ⟨h1, h2⟩ := hP.1 f spec e
    exact ⟨h1.ctx rfl rfl, h2⟩
def yes : List PV := [pbool true]
end Go.Ev

namespace Go.Ev
open Go Go.RowKit Go.Proofs
def locks0 : DV := .sl 1 false [[di (-1)], [di (-1)], [di (-1)]]
def lists0 : DV := .sl 2 false [list0, list0]
def W4 : PV := .agg [.sl 1 false [[du 67109893], [du 0]], .sl 3 false [[di 0, du 2, di 0], [di 0, du 0, di 0]], .sl 7 false [queue2, queue0], lists0, .sl 1 false [[.sl 2 false [[di 0, di 1]]], [dnil]], locks0]
def W5 : PV := .agg [.sl 1 false [[du 67109902], [du 0]], .sl 3 false [[di 0, du 2, di 0], [di 0, du 0, di 0]], .sl 7 false [queue0, queue0], lists0, .sl 1 false [[.sl 2 false []], [dnil]], locks0]
def W6 : PV := .agg [.sl 1 false [[du 67109900], [du 0]], .sl 3 false [[di 0, du 2, di 0], [di 0, du 0, di 0]], .sl 7 false [queue0, queue1], lists0, .sl 1 false [[.sl 2 false []], [dnil]], locks0]
def ansP : PV := .agg [di 0, di 1, di 0, di 0]
def ansC : PV := .agg [di 0, di 0, di 0, di 1]
def ansS : PV := .agg [di 0, di 1, di 0, di 1]
def ans0 : PV := .agg [di 0, di 0, di 0, di 0]
def rightP : Pts := [([W0], yes), ([W2], yes), ([W3], yes), ([W4], yes), ([W5], yes), ([W6], yes)]
noncomputable def C7 : Ctx := addAt C6 20 rightP
noncomputable def CB : Ctx := addAt CA 20 rightP
def doP : Pts := [([W0, callC, pint 2, pint (-1)], [W1, ansC, pint 0, pint (-1), pint (-1)]), ([W2, callP, pint 0, pint (-1)], [W3, ansC, pint 0, pint (-1), pint (-1)]), ([W3, callM, pint 0, pint 1], [W4, ansP, pint 0, pint (-1), pint (-1)]),
  ([W4, callS, pint 0, pint (-1)], [W4, ans0, pint 4, pint 0, pint 1]), ([W4, callS, pint 0, pint 1], [W5, ansS, pint 2, pint (-1), pint (-1)])]
def askP : Pts := [([W3, callM], [pint 0, pint 1, ans0, pbool false])]
def finP : Pts := [([W5, callS, ansS], [W6, pint 0])]
end Go.Ev
