/- What the proof of this claim needs: part MI. No conditions. -/
import Derived.Test.YtbgdnghnfdijnaaGreatDoorMC
import Derived.Test.YtbgdnghnfdijnaaGreatDoorMH
set_option linter.unusedVariables false
set_option linter.unusedSimpArgs false
namespace Go.Ev
open Go Go.RowKit Go.Proofs
noncomputable def C1 : Ctx := addRun S2 500 [151, 135, 82, 83, 81, 80, 37, 42, 43, 45, 17, 91, 159, 95, 160, 144, 145, 147, 146, 140, 142, 191, 203, 239, 232, 233, 167, 168, 202, 200, 213, 218, 36]
theorem hP1 : Aw C1 := addRun_ok hS2 Bm 500 _
noncomputable def C2 : Ctx := addRun C1 500 [85, 78, 61, 192, 166, 103, 143, 105, 100, 90, 93, 158, 201, 150, 54, 50]
theorem hP2 : Aw C2 := addRun_ok hP1 Bm 500 _
noncomputable def C3 : Ctx := addRun C2 500 [44, 141, 40]
theorem hP3 : Aw C3 := addRun_ok hP2 Bm 500 _
noncomputable def C4 : Ctx := addRun C3 200 [20]
theorem hP4 : Aw C4 := addRun_ok hP3 Bm 200 _
noncomputable def C5 : Ctx := addRun C4 200 [33, 46, 35, 258, 259, 261, 262, 264, 265]
theorem hP5 : Aw C5 := addRun_ok hP4 Bm 200 _
def node0 : List DV := [db false, db false, du 0, di (-1), di (-1), di (-1)]
def queue0 : List DV := [di (-1), .sl 6 false [node0, node0], di (-1), du 0, du 9, di 0, .sl 1 false [[di 0], [di 0]]]
def list0 : List DV := [di (-1), .sl 1 false [[di (-2)], [di (-2)]]]
def W0 : PV := .agg [.sl 1 false [[du 0], [du 0]], .sl 3 false [[di 0, du 0, di 0], [di 0, du 0, di 0]], .sl 7 false [queue0, queue0], .sl 2 false [list0, list0], .sl 1 false [[dnil], [dnil]], .sl 1 false [[di (-1)], [di (-1)], [di (-1)]]]
theorem new_W0 : Cj C3 200 20 [A5 2, A5 2, pu 9] = some [W0, A5 0] := by kernel_rfl
def call1 : PV := .agg [di 1, di 0, di 0, di 0, di 0, di 0, du 2]
def X0 : PV := .agg [.sl 1 false [[du 67108873], [du 0]], .sl 3 false [[di 0, du 2, di 0], [di 0, du 0, di 0]], .sl 7 false [queue0, queue0], .sl 2 false [list0, list0], .sl 1 false [[dnil], [dnil]], .sl 1 false [[di (-1)], [di (-1)], [di (-1)]]]
noncomputable def atSpec : List (List PV × List PV) → Spec
 | [], _ => none
 | (p, r) :: l, ps => open Classical in if ps = p then some r else atSpec l ps
theorem atSpec_hd (p r : List PV) (l : List (List PV × List PV)) : atSpec ((p, r) :: l) p = some r := by simp [atSpec]
theorem atSpec_tl {p r ps rs : List PV} {l : List (List PV × List PV)} (h : ps ≠ p) (h2 : atSpec l ps = some rs) : atSpec ((p, r) :: l) ps = some rs := by simp [atSpec, h, h2]
theorem atSpec_mem {l : List (List PV × List PV)} {ps rs : List PV} (h : atSpec l ps = some rs) : (ps, rs) ∈ l := by
 induction l with
 | nil => simp [atSpec] at h
 | cons x l ih =>
  obtain ⟨p, r⟩ := x
  simp only [atSpec] at h
  split at h
  ·rename_i e
   simp only [Option.some.injEq] at h
   subst e; subst h
   exact List.mem_cons_self ..
  ·exact List.mem_cons_of_mem _ (ih h)
theorem sat_at {C : Ctx} (hP : Aw C) (hm : C.P.follows .mixedOrders = true) {g : FuncId} {l : List (List PV × List PV)}
  (h : ∀ p ∈ l, ∃ a h1 h2, Ev C Ab (.call g (p.1.map ofPV) {}) (.val a h1) ∧ resA h1 a = some (p.2, h2)) : AJ C g (atSpec l) :=
 Af (O := Ab) hP (fun _ _ h => h.elim) hm fun ps rs hs => h _ (atSpec_mem hs)
theorem right_W0 : Cj C4 200 33 [W0] = some [A3 true] := by kernel_rfl
theorem rright_W0 : Cj C4 200 46 [W0] = some [A3 true] := by kernel_rfl
theorem right_X0 : Cj C4 200 33 [X0] = some [A3 true] := by kernel_rfl
def M0 : PV := .agg [.sl 7 false [[di 0, di 0, di 0, di 0, du 0, du 0, di 0], [di 0, di 0, di 0, di 0, du 0, du 0, di 0]], .sl 1 false [[du 9], [du 9]], .sl 1 false [[dnil], [dnil]]]
def M1 : PV := .agg [.sl 7 false [[di 1, di 1, di 1, di 0, du 2, du 0, di 0], [di 0, di 0, di 0, di 0, du 0, du 0, di 0]], .sl 1 false [[du 9], [du 9]], .sl 1 false [[dnil], [dnil]]]
theorem model_W0 : Cs C5 Ab 200 14 [W0] [(A1 14 11, .prim [A3 true])] = some ([M0, A5 0], [], [Cj C4 200 33 [W0] = some [A3 true]]) := by kernel_rfl
theorem model_X0 : Cs C5 Ab 200 14 [X0] [(A1 14 11, .prim [A3 true])] = some ([M1, A5 0], [], [Cj C4 200 33 [X0] = some [A3 true]]) := by kernel_rfl
def ans1 : PV := .agg [di 0, di 0, di 0, di 1]
theorem do_W0 : Cs C5 Ab 200 21 [W0, call1, A5 2, A5 (-1)] [(A1 21 20, .prim [A3 true])] = some ([X0, ans1, A5 0, A5 (-1), A5 (-1)], [], [Cj C4 200 46 [W0] = some [A3 true]]) := by kernel_rfl
theorem where_X0 : Cs C5 Ab 200 16 [X0, A5 0] [(A1 39 7, .prim [A3 true])] = some ([nilPV, A5 0], [], [Cj C4 200 33 [X0] = some [A3 true]]) := by kernel_rfl
theorem where_X2 : Cs C5 Ab 200 16 [X0, A5 2] [(A1 39 7, .prim [A3 true])] = some ([nilPV, A5 1], [], [Cj C4 200 33 [X0] = some [A3 true]]) := by kernel_rfl
theorem pending_X0 : Cs C5 Ab 200 18 [X0, A5 0] [(A1 39 7, .prim [A3 true])] = some ([A3 false, A5 0], [], [Cj C4 200 33 [X0] = some [A3 true]]) := by kernel_rfl
def kinds1 : PV := .agg [di 1, di 1, di 0, di 0, di 0, di 0]
theorem kinds_M1 : Cs C5 Ab 200 12 [M1] [] = some ([kinds1], [], []) := by kernel_rfl
noncomputable def modelAt : Spec := atSpec [([W0], [M0, A5 0]), ([X0], [M1, A5 0])]
noncomputable def doAt : Spec := atSpec [([W0, call1, A5 2, A5 (-1)], [X0, ans1, A5 0, A5 (-1), A5 (-1)])]
noncomputable def whereAt : Spec := atSpec [([X0, A5 0], [nilPV, A5 0]), ([X0, A5 2], [nilPV, A5 1])]
noncomputable def pendingAt : Spec := atSpec [([X0, A5 0], [A3 false, A5 0])]
noncomputable def kindsAt : Spec := atSpec [([M1], [kinds1])]
theorem modelAt_sat : AJ C5 14 modelAt := sat_at hP5 Bm fun p hp => by
 simp only [List.mem_cons, List.not_mem_nil, or_false] at hp
 rcases hp with rfl | rfl
 ·exact A4 model_W0 (A0 right_W0 A2)
 ·exact A4 model_X0 (A0 right_X0 A2)
theorem doAt_sat : AJ C5 21 doAt := sat_at hP5 Bm fun p hp => by
 simp only [List.mem_cons, List.not_mem_nil, or_false] at hp
 subst hp
 exact A4 do_W0 (A0 rright_W0 A2)
theorem whereAt_sat : AJ C5 16 whereAt := sat_at hP5 Bm fun p hp => by
 simp only [List.mem_cons, List.not_mem_nil, or_false] at hp
 rcases hp with rfl | rfl
 ·exact A4 where_X0 (A0 right_X0 A2)
 ·exact A4 where_X2 (A0 right_X0 A2)
theorem pendingAt_sat : AJ C5 18 pendingAt := sat_at hP5 Bm fun p hp => by
 simp only [List.mem_cons, List.not_mem_nil, or_false] at hp
 subst hp
 exact A4 pending_X0 (A0 right_X0 A2)
theorem kindsAt_sat : AJ C5 12 kindsAt := sat_at hP5 Bm fun p hp => by
 simp only [List.mem_cons, List.not_mem_nil, or_false] at hp
 subst hp
 exact A4 kinds_M1 A2
noncomputable def C6 : Ctx := Ad (Ad (Ad (Ad (Ad C5 14 modelAt) 21 doAt) 16 whereAt) 18 pendingAt) 12 kindsAt
theorem hP6 : Aw C6 := A7 (A7 (A7 (A7 (A7 hP5 modelAt_sat (by kernel_rfl)) (doAt_sat.ctx rfl rfl) (by kernel_rfl)) (whereAt_sat.ctx rfl rfl) (by kernel_rfl)) (pendingAt_sat.ctx rfl rfl) (by kernel_rfl)) (kindsAt_sat.ctx rfl rfl) (by kernel_rfl)
theorem awake_run : Cs C6 Ab 200 9 [] [(A1 9 19, Dec.prim [W0, A5 0]), (A1 9 24, .prim [M0, A5 0]), (A1 9 30, .prim [X0, ans1, A5 0, A5 (-1), A5 (-1)]), (A1 9 38, .prim [M1, A5 0]), (A1 9 43, .prim [nilPV, A5 0]), (A1 9 48, .prim [nilPV, A5 1]), (A1 9 53, .prim [A3 false, A5 0]), (A1 9 116, .prim [kinds1])] =
  some ([A3 true], [], [Cj C3 200 20 [A5 2, A5 2, pu 9] = some [W0, A5 0], modelAt [W0] = some [M0, A5 0], doAt [W0, call1, A5 2, A5 (-1)] = some [X0, ans1, A5 0, A5 (-1), A5 (-1)], modelAt [X0] = some [M1, A5 0],
   whereAt [X0, A5 0] = some [nilPV, A5 0], whereAt [X0, A5 2] = some [nilPV, A5 1], pendingAt [X0, A5 0] = some [A3 false, A5 0], kindsAt [M1] = some [kinds1]]) := by kernel_rfl
theorem W0_X0 : ([X0] : List PV) ≠ [W0] := by
 intro h
 simp only [X0, W0, List.cons.injEq, PV.agg.injEq, DV.sl.injEq, du, DV.v.injEq, Value.int.injEq] at h
 omega
def awakeSpec : Spec
 | [] => some [A3 true]
 | _ => none
theorem awake_sat : AJ C0 9 awakeSpec := by
 refine AJ.ctx (C := C6) rfl rfl (Af (O := Ab) hP6 (fun _ _ h => h.elim) Bm fun ps rs hs => ?_)
 unfold awakeSpec at hs
 split at hs
 ·simp only [Option.some.injEq] at hs
  subst hs
  refine A4 awake_run (A0 new_W0 (A0 (atSpec_hd _ _ _) (A0 (atSpec_hd _ _ _) (A0 (atSpec_tl W0_X0 (atSpec_hd _ _ _)) (A0 (atSpec_hd _ _ _) (A0 (atSpec_tl ?_ (atSpec_hd _ _ _)) (A0 (atSpec_hd _ _ _) (A0 (atSpec_hd _ _ _) A2))))))))
  intro h
  simp [A5] at h
 ·cases hs
def cnt : Nat → List Nat → Nat
 | n, [] => n
 | n, k :: r => if n ≤ 300 then cnt (n + k) r else n
theorem cnt_le : ∀ {n : Nat} {l : List Nat}, cnt n l ≤ 300 → n ≤ 300 ∧ ∀ k ∈ l, k ≤ 300
 | n, [], h => ⟨h, by simp⟩
 | n, k :: r, h => by
  unfold cnt at h
  split at h
  ·rename_i hn
   obtain ⟨h1, h2⟩ := cnt_le h
   refine ⟨hn, fun x hx => ?_⟩
   rcases List.mem_cons.1 hx with rfl | hx
   ·omega
   ·exact h2 x hx
  ·omega
theorem cnt_big : ∀ {n M : Nat} {l : List Nat}, (∀ k ∈ l, k ≤ M) → cnt n l ≤ max n (300 + M)
 | n, M, [], h => by unfold cnt; omega
 | n, M, k :: r, h => by
  unfold cnt
  split
  ·have h1 := h k (List.mem_cons_self ..)
   have := cnt_big (n := n + k) fun x hx => h x (List.mem_cons_of_mem _ hx)
   omega
  ·omega
structure Wld.Wk (w : Wld) : Prop where
 words : ∀ x ∈ w.words, x < 2 ^ 64
 tasks : ∀ t ∈ w.tasks, 0 ≤ t.mask ∧ t.mask < 2 ^ 64
 qv : ∀ q ∈ w.queues, q.v < 2 ^ 64 ∧ q.m < 2 ^ 64 ∧ ∀ n ∈ q.ns, n.v < 2 ^ 64
 nw : w.words.length < 2 ^ 48
 nt : w.tasks.length < 2 ^ 48
 nq : w.queues.length < 2 ^ 48
 nl : w.lists.length < 2 ^ 48
 ns : w.stops.length < 2 ^ 48
 nb : w.bys.length < 2 ^ 48
 qw : ∀ q ∈ w.queues, q.ws.length < 2 ^ 48 ∧ q.ns.length < 2 ^ 48
 ll : ∀ l ∈ w.lists, l.next.length < 2 ^ 48
 sl : ∀ l ∈ w.stops, l.length < 2 ^ 48
def qsz (q : Que) : Nat := q.ws.length + q.ns.length
def num0 (w : Wld) : Nat := w.words.length + w.tasks.length + w.bys.length + w.queues.length + w.lists.length
def num1 (w : Wld) : Nat := cnt (num0 w) (w.queues.map qsz)
def num2 (w : Wld) : Nat := cnt (num1 w) (w.lists.map fun l => l.next.length)
def num3 (w : Wld) : Nat := cnt (num2 w) ((w.stops.map List.length).map (1 + ·))
theorem num_ok {w : Wld} (k : w.Wk) (h : num3 w ≤ 300) : w.Ok := by
 obtain ⟨h2, _⟩ := cnt_le h
 obtain ⟨h1, hl⟩ := cnt_le h2
 obtain ⟨h0, hq⟩ := cnt_le h1
 have hst := (cnt_le h).2
 have e0 : num0 w = w.words.length + w.tasks.length + w.bys.length + w.queues.length + w.lists.length := rfl
 refine ⟨k.words, k.tasks, fun q hq' => ?_, by omega, by omega, by omega, fun l hl => ?_⟩
 ·obtain ⟨a, b, c⟩ := k.qv q hq'
  have := hq (qsz q) (List.mem_map.2 ⟨q, hq', rfl⟩)
  unfold qsz at this
  exact ⟨a, b, by omega, c⟩
 ·have := hst (1 + l.length) (List.mem_map.2 ⟨l.length, List.mem_map.2 ⟨l, hl, rfl⟩, rfl⟩)
  omega
noncomputable def CTe : Ctx := Ad (Ad C0 9 awakeSpec) 10 (wiS tldR)
theorem hPTe : Aw CTe := A7 (A7 BN awake_sat (by kernel_rfl)) (tld_sat.ctx rfl rfl) (by kernel_rfl)
def teC (w : Wld) (i : Int) : List DV := [.mn 1 (An w.words), .mn 3 (Aq w.tasks), .mn 7 (Ak w.queues), .mn 2 (As w.lists), .mn 1 (Ao w.stops), .mn 1 (A6 w.bys), di i]
def teH (w : Wld) (i : Int) : H := { objs := [(A1 3 1, 1, [.cells ((teC w i).map .d) false])] }
def teHd (w : Wld) (i : Int) (k : Nat) (n c : Int) : St := { σ := Ap 122 [(1, .ptr (A1 3 1) 0 0), (3, vi n), (k, vi c)], h := teH w i }
def teO (w : Wld) (i n : Int) : St := { σ := Ap 122 [(1, .ptr (A1 3 1) 0 0), (3, vi n)], h := teH w i }
theorem wrap_n {n : Nat} (h : n < 2 ^ 62) : IntKind.wrap .i64 (n : Int) = (n : Int) := Ch (by omega) (by omega)
theorem wrap_add2 {a b : Nat} (h : a + b < 2 ^ 62) : IntKind.wrap .i64 ((a : Int) + (b : Int)) = ((a + b : Nat) : Int) := by rw [← Int.natCast_add]; exact wrap_n h
theorem le300 {n : Nat} (h : n ≤ 300) : decide ((n : Int) ≤ 300) = true := decide_eq_true (by omega)
theorem gt300 {n : Nat} (h : ¬ n ≤ 300) : decide ((n : Int) ≤ 300) = false := decide_eq_false (by omega)
theorem te_l0 {w : Wld} (k : w.Wk) (i : Int) : ∀ (d c n : Nat), c + d = w.queues.length → n < 2 ^ 60 →
  Ev CTe Ab (.code 3 false (BE Tryz.prog 3 0) (teHd w i 4 n c)) (.code (.exit 0) (teO w i (cnt n ((w.queues.drop c).map qsz) : Nat)))
 | 0, c, n, h, hn => by
  rw [List.drop_eq_nil_of_le (by omega)]
  exact mgo 60 (sl 3 [(39, .b false)]) [1, 3] (A (by rw [AD]; exact dge (by omega) : decide ((c : Int) < ((Ak w.queues).length : Int)) = false) Z) (by kernel_rfl)
 | d + 1, c, n, h, hn => by
  have hc : c < w.queues.length := by omega
  have b0 : decide ((c : Int) < ((Ak w.queues).length : Int)) = true := by rw [AD]; exact dlt hc
  rw [List.drop_eq_getElem_cons hc, List.map_cons, cnt]
  by_cases h3 : n ≤ 300
  ·rw [if_pos h3]
   obtain ⟨z1, z2⟩ := k.qw _ (List.getElem_mem hc)
   have hnq := k.nq
   have r : 0 ≤ (c : Int) ∧ (Ak w.queues)[((c : Nat) : Int).toNat]? = some w.queues[c].cs := ⟨by omega, BH (List.getElem?_eq_getElem hc)⟩
   have w1 : IntKind.wrap .i64 ((n : Int) + ((A6 w.queues[c].ws).length : Int)) = ((n + w.queues[c].ws.length : Nat) : Int) := by rw [A6, List.length_map]; exact wrap_add2 (by omega)
   have w2 : IntKind.wrap .i64 (((n + w.queues[c].ws.length : Nat) : Int) + ((A9 w.queues[c].ns).length : Int)) = ((n + qsz w.queues[c] : Nat) : Int) := by
    rw [A9, List.length_map]
    exact (wrap_add2 (by omega)).trans (by simp only [qsz, Nat.add_assoc])
   have wr : IntKind.wrap .i64 ((c : Int) + 1) = ((c + 1 : Nat) : Int) := Ag (by omega)
   exact lgo 60 (sl 3 [(39, .b true), (42, .b true), (51, .row w.queues[c].cs), (55, .int ((n + w.queues[c].ws.length : Nat) : Int)), (60, .row w.queues[c].cs), (65, .int ((n + qsz w.queues[c] : Nat) : Int)), (45, .int ((c + 1 : Nat) : Int))]) [1, 3, 4]
    (A b0 (A (le300 h3) (A r (A w1 (A r (A w2 (A wr (A (te_l0 k i d (c + 1) (n + qsz w.queues[c]) (by omega) (by unfold qsz; omega)) Z)))))))) (by kernel_rfl)
  ·rw [if_neg h3]
   exact mgo 60 (sl 3 [(39, .b true), (42, .b false)]) [1, 3] (A b0 (A (gt300 h3) Z)) (by kernel_rfl)
theorem te_l1 {w : Wld} (k : w.Wk) (i : Int) : ∀ (d c n : Nat), c + d = w.lists.length → n < 2 ^ 60 →
  Ev CTe Ab (.code 3 false (BE Tryz.prog 3 1) (teHd w i 5 n c)) (.code (.exit 2) (teO w i (cnt n ((w.lists.drop c).map fun l => l.next.length) : Nat)))
 | 0, c, n, h, hn => by
  rw [List.drop_eq_nil_of_le (by omega)]
  exact mgo 60 (sl 3 [(71, .b false)]) [1, 3] (A (by rw [Cq]; exact dge (by omega) : decide ((c : Int) < ((As w.lists).length : Int)) = false) Z) (by kernel_rfl)
 | d + 1, c, n, h, hn => by
  have hc : c < w.lists.length := by omega
  have b0 : decide ((c : Int) < ((As w.lists).length : Int)) = true := by rw [Cq]; exact dlt hc
  rw [List.drop_eq_getElem_cons hc, List.map_cons, cnt]
  by_cases h3 : n ≤ 300
  ·rw [if_pos h3]
   have z1 := k.ll _ (List.getElem_mem hc)
   have hnq := k.nl
   have r : 0 ≤ (c : Int) ∧ (As w.lists)[((c : Nat) : Int).toNat]? = some w.lists[c].cs := ⟨by omega, lrows_at (List.getElem?_eq_getElem hc)⟩
   have w1 : IntKind.wrap .i64 ((n : Int) + ((A6 w.lists[c].next).length : Int)) = ((n + w.lists[c].next.length : Nat) : Int) := by rw [A6, List.length_map]; exact wrap_add2 (by omega)
   have wr : IntKind.wrap .i64 ((c : Int) + 1) = ((c + 1 : Nat) : Int) := Ag (by omega)
   exact lgo 60 (sl 3 [(71, .b true), (74, .b true), (83, .row w.lists[c].cs), (87, .int ((n + w.lists[c].next.length : Nat) : Int)), (77, .int ((c + 1 : Nat) : Int))]) [1, 3, 5]
    (A b0 (A (le300 h3) (A r (A w1 (A wr (A (te_l1 k i d (c + 1) (n + w.lists[c].next.length) (by omega) (by omega)) Z)))))) (by kernel_rfl)
  ·rw [if_neg h3]
   exact mgo 60 (sl 3 [(71, .b true), (74, .b false)]) [1, 3] (A b0 (A (gt300 h3) Z)) (by kernel_rfl)
theorem te_l2 {w : Wld} (k : w.Wk) (i : Int) : ∀ (d c n : Nat), c + d = w.stops.length → n < 2 ^ 60 →
  Ev CTe Ab (.code 3 false (BE Tryz.prog 3 2) (teHd w i 6 n c)) (.code (.exit 4) (teO w i (cnt n (((w.stops.drop c).map List.length).map (1 + ·)) : Nat)))
 | 0, c, n, h, hn => by
  rw [List.drop_eq_nil_of_le (by omega)]
  exact mgo 60 (sl 3 [(93, .b false)]) [1, 3] (A (by rw [srows_len]; exact dge (by omega) : decide ((c : Int) < ((Ao w.stops).length : Int)) = false) Z) (by kernel_rfl)
 | d + 1, c, n, h, hn => by
  have hc : c < w.stops.length := by omega
  have b0 : decide ((c : Int) < ((Ao w.stops).length : Int)) = true := by rw [srows_len]; exact dlt hc
  rw [List.drop_eq_getElem_cons hc, List.map_cons, List.map_cons, cnt]
  by_cases h3 : n ≤ 300
  ·rw [if_pos h3]
   have z1 := k.sl _ (List.getElem_mem hc)
   have hnq := k.ns
   have r : 0 ≤ (c : Int) ∧ (Ao w.stops)[((c : Nat) : Int).toNat]? = some [.mn 2 (Aj w.stops[c])] := ⟨by omega, BG (List.getElem?_eq_getElem hc)⟩
   have w0 : IntKind.wrap .i64 ((n : Int) + 1) = ((n + 1 : Nat) : Int) := Ag (by omega)
   have w1 : IntKind.wrap .i64 (((n + 1 : Nat) : Int) + ((Aj w.stops[c]).length : Int)) = ((n + (1 + w.stops[c].length) : Nat) : Int) := by rw [AW]; exact (wrap_add2 (by omega)).trans (by rw [Nat.add_assoc])
   have wr : IntKind.wrap .i64 ((c : Int) + 1) = ((c + 1 : Nat) : Int) := Ag (by omega)
   exact lgo 60 (sl 3 [(93, .b true), (96, .b true), (101, .int ((n + 1 : Nat) : Int)), (106, .row [.mn 2 (Aj w.stops[c])]), (109, .int ((n + (1 + w.stops[c].length) : Nat) : Int)), (99, .int ((c + 1 : Nat) : Int))]) [1, 3, 6]
    (A b0 (A (le300 h3) (A w0 (A r (A w1 (A wr (A (te_l2 k i d (c + 1) (n + (1 + w.stops[c].length)) (by omega) (by omega)) Z))))))) (by kernel_rfl)
  ·rw [if_neg h3]
   exact mgo 60 (sl 3 [(93, .b true), (96, .b false)]) [1, 3] (A b0 (A (gt300 h3) Z)) (by kernel_rfl)
open Classical in
noncomputable def teS : Spec
 | [.agg cs] => if ∃ w i, Wld.Wk w ∧ cs = teC w i then some [A3 true] else none
 | _ => none
theorem teS_at {w : Wld} (k : w.Wk) (i : Int) : teS [.agg (teC w i)] = some [A3 true] := if_pos ⟨w, i, k, rfl⟩
theorem te_sat : AJ C0 3 teS := AJ.ctx (C := CTe) rfl rfl (Af (O := Ab) hPTe (fun _ _ h => h.elim) Bm fun ps rs hs => by
 unfold teS at hs
 split at hs
 ·split at hs
  ·rename_i h
   obtain ⟨w, i, k, rfl⟩ := h
   simp only [Option.some.injEq] at hs; subst hs
   have g1 := k.nw; have g2 := k.nt; have g3 := k.nb; have g4 := k.nq; have g5 := k.nl; have g6 := k.ns
   have z0 : num0 w < 2 ^ 51 := by unfold num0; omega
   have z1 : num1 w < 2 ^ 60 := by
    have := cnt_big (n := num0 w) (M := 2 ^ 51) (l := w.queues.map qsz) (fun x hx => by
     obtain ⟨q, hq, rfl⟩ := List.mem_map.1 hx
     have := k.qw q hq
     unfold qsz; omega)
    unfold num1; omega
   have z2 : num2 w < 2 ^ 60 := by
    have := cnt_big (n := num1 w) (M := 2 ^ 51) (l := w.lists.map fun l => l.next.length) (fun x hx => by
     obtain ⟨q, hq, rfl⟩ := List.mem_map.1 hx
     have := k.ll q hq
     omega)
    unfold num2; omega
   have s1 : IntKind.wrap .i64 (((An w.words).length : Int) + ((Aq w.tasks).length : Int)) = ((w.words.length + w.tasks.length : Nat) : Int) := by rw [Be, trows_len]; exact wrap_add2 (by omega)
   have s2 : IntKind.wrap .i64 (((w.words.length + w.tasks.length : Nat) : Int) + ((A6 w.bys).length : Int)) = ((w.words.length + w.tasks.length + w.bys.length : Nat) : Int) := by rw [A6, List.length_map]; exact wrap_add2 (by omega)
   have s3 : IntKind.wrap .i64 (((w.words.length + w.tasks.length + w.bys.length : Nat) : Int) + ((Ak w.queues).length : Int)) = ((w.words.length + w.tasks.length + w.bys.length + w.queues.length : Nat) : Int) := by rw [AD]; exact wrap_add2 (by omega)
   have s4 : IntKind.wrap .i64 (((w.words.length + w.tasks.length + w.bys.length + w.queues.length : Nat) : Int) + ((As w.lists).length : Int)) = ((num0 w : Nat) : Int) := by rw [Cq]; exact wrap_add2 (by omega)
   have l0 := te_l0 k i w.queues.length 0 (num0 w) (by omega) (by omega)
   have l1 := te_l1 k i w.lists.length 0 (num1 w) (by omega) z1
   have l2 := te_l2 k i w.stops.length 0 (num2 w) (by omega) z2
   rw [List.drop_zero] at l0 l1 l2
   by_cases h : num3 w ≤ 300
   ·have b : decide ((num3 w : Int) > 300) = false := decide_eq_false (by omega)
    have ht := wiS_at (num_ok k h) tldR i
    exact vgo 60 (sl 3 [(17, .int ((w.words.length + w.tasks.length : Nat) : Int)), (23, .int ((w.words.length + w.tasks.length + w.bys.length : Nat) : Int)), (28, .int ((w.words.length + w.tasks.length + w.bys.length + w.queues.length : Nat) : Int)), (33, .int ((num0 w : Nat) : Int)),
      (8001, .loop [1, 3, 4] (.exit 0) (teO w i (num1 w : Nat))), (8001, .loop [1, 3, 5] (.exit 2) (teO w i (num2 w : Nat))), (8001, .loop [1, 3, 6] (.exit 4) (teO w i (num3 w : Nat))), (110, .prim [A3 true]), (113, .b false), (119, .prim [A3 true])])
     (A s1 (A s2 (A s3 (A s4 (A l0 (A l1 (A l2 (A (rfl : awakeSpec [] = some [A3 true]) (A b (A ht Z)))))))))) (by kernel_rfl)
   ·have b : decide ((num3 w : Int) > 300) = true := decide_eq_true (by omega)
    exact vgo 60 (sl 3 [(17, .int ((w.words.length + w.tasks.length : Nat) : Int)), (23, .int ((w.words.length + w.tasks.length + w.bys.length : Nat) : Int)), (28, .int ((w.words.length + w.tasks.length + w.bys.length + w.queues.length : Nat) : Int)), (33, .int ((num0 w : Nat) : Int)),
      (8001, .loop [1, 3, 4] (.exit 0) (teO w i (num1 w : Nat))), (8001, .loop [1, 3, 5] (.exit 2) (teO w i (num2 w : Nat))), (8001, .loop [1, 3, 6] (.exit 4) (teO w i (num3 w : Nat))), (110, .prim [A3 true]), (113, .b true)])
     (A s1 (A s2 (A s3 (A s4 (A l0 (A l1 (A l2 (A (rfl : awakeSpec [] = some [A3 true]) (A b Z))))))))) (by kernel_rfl)
  ·cases hs
 ·cases hs)
end Go.Ev
