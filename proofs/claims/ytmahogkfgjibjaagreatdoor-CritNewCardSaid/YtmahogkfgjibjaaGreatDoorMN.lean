/- What the proof of this claim needs: part MN. No conditions. -/
import Derived.Test.YtmahogkfgjibjaaGreatDoorMP
set_option linter.unusedVariables false
set_option linter.unusedSimpArgs false

namespace Go.Ev
open Go Go.RowKit Go.Proofs

theorem wrap_ok {n : Int} (h1 : -9223372036854775808 ≤ n) (h2 : n < 9223372036854775808) : IntKind.i64.wrap n = n := by
  simp only [IntKind.wrap, IntKind.bits, IntKind.signed]
  simp
  split <;> omega
theorem wrapU_ok {n : Int} (h1 : 0 ≤ n) (h2 : n < 18446744073709551616) : IntKind.u64.wrap n = n := by
  simp only [IntKind.wrap, IntKind.bits, IntKind.signed]
  simp
  omega
theorem wrap_succ {i : Nat} (h : i < 2 ^ 62) : IntKind.i64.wrap ((i : Int) + 1) = ((i + 1 : Nat) : Int) := by
  rw [wrap_ok (by omega) (by omega)]; simp
def wsR (s : Nat) : List (List DV) := List.replicate s [du 0]
def tsR (s : Nat) : List (List DV) := List.replicate s [di 0, du 0, di 0]
def nsR (s : Nat) : List (List DV) := List.replicate s node0
def wgR (s : Nat) : List (List DV) := List.replicate s [di 0]
def nxR (s : Nat) : List (List DV) := List.replicate s [di (-2)]
def lkR (c : Nat) : List (List DV) := List.replicate c [di (-1)]
/-- a row that the document's word makes by appending: nil, if there are none -/
def rowD (sz : Nat) : List (List DV) → DV
  | [] => dnil
  | r :: l => .sl sz false (r :: l)
def tblP (s : Nat) : PV := .agg [.sl 1 false (wsR s), .sl 3 false (tsR s)]
def treP (s : Nat) : PV := .agg [di (-1), .sl 6 false (nsR s)]
def treQ (s : Nat) : PV := .agg [di (-1), rowD 6 (nsR s)]
def lnkP (s : Nat) : PV := .agg [di (-1), .sl 1 false (nxR s)]
def lnkQ (s : Nat) : PV := .agg [di (-1), rowD 1 (nxR s)]
def lksP (c : Nat) : PV := .agg [.sl 1 false (lkR c)]
def okP (C : Ctx) (g : FuncId) (args rs : Nat → List PV) (n : Nat) : Bool := match runSpec C 500 g (args n) with
  | some r => eqPs r (rs n)
  | none => false
theorem okP_eq {C : Ctx} {g : FuncId} {args rs : Nat → List PV} {l : List Nat} (h : l.all (okP C g args rs) = true) : ∀ n ∈ l, runSpec C 500 g (args n) = some (rs n) := by
  intro n hn
  have := List.all_eq_true.1 h n hn
  unfold okP at this
  split at this
  · rename_i r e
    rw [e, eqPs_eq this]
  · cases this
def slotsL : List Nat := List.range 65
def argI (n : Nat) : List PV := [pint n]
end Go.Ev

namespace Go.Ev
open Go Go.RowKit Go.Proofs

theorem rep_add {α : Type} (a b : Nat) (x : α) : List.replicate (a + b) x = List.replicate a x ++ List.replicate b x := by simp
theorem putFast_zero {α : Type} : ∀ (B X : List α), X.length ≤ B.length → putFast B 0 X = X ++ B.drop X.length
  | [], [], _ => rfl
  | [], x :: X, h => by simp at h
  | b :: B, [], _ => rfl
  | b :: B, x :: X, h => by
    simp only [putFast, List.cons_append, List.length_cons, List.drop_succ_cons]
    rw [putFast_zero B X (by simpa using h)]
theorem putFast_app {α : Type} : ∀ (A B X : List α), X.length ≤ B.length → putFast (A ++ B) A.length X = A ++ (X ++ B.drop X.length)
  | [], B, X, h => putFast_zero B X h
  | a :: A, B, X, h => by
    simp only [List.cons_append, List.length_cons, putFast]
    rw [putFast_app A B X h]
theorem chunk_flat (sz : Nat) : ∀ (l : List (List DV)), (∀ r ∈ l, r.length = sz) → chunk sz l.length l.flatten = l
  | [], _ => rfl
  | r :: l, h => by
    have hr := h r (by simp)
    subst hr
    simp only [List.length_cons, chunk, List.flatten_cons, List.take_left, List.drop_left]
    rw [chunk_flat r.length l (fun x hx => h x (by simp [hx]))]
theorem allSome_cells : ∀ (l : List DV), (∀ y ∈ l, cellD (.d y) = some y) → allSome cellD (l.map .d) = some l
  | [], _ => rfl
  | y :: l, h => by
    simp only [List.map_cons, allSome]
    rw [h y (by simp), allSome_cells l (fun x hx => h x (by simp [hx]))]
theorem flatR_len {α : Type} {sz : Nat} : ∀ (l : List (List α)), (∀ r ∈ l, r.length = sz) → l.flatten.length = l.length * sz
  | [], _ => by simp
  | r :: l, h => by
    simp only [List.flatten_cons, List.length_append, List.length_cons, Nat.add_mul, Nat.one_mul]
    rw [flatR_len l (fun x hx => h x (by simp [hx])), h r (by simp)]
    omega
theorem rowsOf_hs {h : H} {s g n sz : Nat} {rows : List (List DV)} {rest : List AV} {f : Bool} (hg : h.get s g = some (.cells (rows.flatten.map .d ++ rest) f)) (hn : rows.length = n) (hs : ∀ r ∈ rows, r.length = sz)
    (h1 : ∀ r ∈ rows, ∀ y ∈ r, cellD (.d y) = some y) : rowsOf h (.hs s g 0 n sz) = some (sz, rows) := by
  subst hn
  have hl := flatR_len rows hs
  have e : takeCells (rows.flatten.map AV.d ++ rest) 0 (rows.length * sz) = some (rows.flatten.map .d) := by
    unfold takeCells
    rw [if_pos (by simp only [List.length_append, List.length_map, hl]; omega), List.drop_zero, ← hl, ← List.length_map (f := AV.d), List.take_left]
  simp only [rowsOf, hg, e]
  rw [allSome_cells _ (fun y hy => by
    obtain ⟨r, hr, hy⟩ := List.mem_flatten.1 hy
    exact h1 r hr y hy)]
  simp only [chunk_flat sz rows hs]
/-- k rows, of which the first n are filled -/
def fillR (r z : List DV) (n k : Nat) : List (List DV) := List.replicate n r ++ List.replicate (k - n) z
def fillC (r z : List DV) (n k : Nat) : List AV := (fillR r z n k).flatten.map .d
def hR (s : Nat) (cs : List AV) : H := ({} : H).push s (.cells cs false)
theorem hR_get (s : Nat) (cs : List AV) : (hR s cs).get s 0 = some (.cells cs false) := by simp [hR, H.get, H.push, lookS, putS]
theorem hR_set (s : Nat) (cs cs' : List AV) : (hR s cs).set s 0 (.cells cs' false) = hR s cs' := by simp [hR, H.set, H.push, lookS, putS]
def plainRow (sz : Nat) (r : List DV) : Prop := r.length = sz ∧ ∀ y ∈ r, cellD (.d y) = some y
theorem fillR_rows {sz n k : Nat} {r z : List DV} (hr : plainRow sz r) (hz : plainRow sz z) : ∀ x ∈ fillR r z n k, plainRow sz x := by
  intro x hx
  simp only [fillR, List.mem_append, List.mem_replicate] at hx
  rcases hx with ⟨_, rfl⟩ | ⟨_, rfl⟩
  · exact hr
  · exact hz
theorem fillC_split (r z : List DV) (n k : Nat) : fillC r z n k = (List.replicate n r).flatten.map .d ++ (List.replicate (k - n) z).flatten.map .d := by
  simp [fillC, fillR, List.flatten_append]
/-- what a copy to the first row that is not filled does -/
theorem copy_fill {C : Ctx} {elem s n t k sz : Nat} {r z : List DV} {x : AV} {more : List (List DV)} (hsz : sizeT C elem = some sz) (h0 : 0 < sz) (hr : plainRow sz r) (hz : plainRow sz z) (hn : n ≤ k)
    (hx : appArg sz (hR s (fillC r z n k)) x = some (sz, more)) (hm : ∃ q, more = List.replicate q r ∧ t = Nat.min q (k - n)) (ht : 0 < t) :
    copyOp C elem s 0 (0 + n * sz) (k - n) sz x (hR s (fillC r z n k)) = some (vi t, hR s (fillC r z (n + t) k)) := by
  obtain ⟨q, rfl, hq⟩ := hm
  have hle : t ≤ k - n := by rw [hq]; exact Nat.min_le_right _ _
  have hlq : t ≤ q := by rw [hq]; exact Nat.min_le_left _ _
  have hlr : ∀ m, (List.replicate m r).flatten.length = m * sz := fun m => by
    rw [flatR_len (sz := sz) _ (fun x hx => by rw [(List.mem_replicate.1 hx).2]; exact hr.1)]; simp
  have hlz : ∀ m, (List.replicate m z).flatten.length = m * sz := fun m => by
    rw [flatR_len (sz := sz) _ (fun x hx => by rw [(List.mem_replicate.1 hx).2]; exact hz.1)]; simp
  unfold copyOp
  rw [hx]
  simp only [hsz, List.length_replicate, ← hq, h0, and_self, if_true]
  rw [if_neg (by omega)]
  simp only [hR_get]
  have hlen : (fillC r z n k).length = k * sz := by
    rw [fillC_split]
    simp only [List.length_append, List.length_map, hlr, hlz, ← Nat.add_mul]
    congr 1; omega
  rw [if_pos (by rw [hlen, Nat.zero_add, ← Nat.add_mul]; exact Nat.mul_le_mul_right _ (by omega))]
  rw [hR_set]
  have hput : putFast (fillC r z n k) (0 + n * sz) (((List.replicate q r).take t).flatten.map .d) = fillC r z (n + t) k := by
    rw [fillC_split, Nat.zero_add]
    have e : ((List.replicate n r).flatten.map AV.d).length = n * sz := by rw [List.length_map, hlr]
    rw [← e, putFast_app]
    · rw [List.take_replicate, Nat.min_eq_left hlq, fillC_split, rep_add n t, List.flatten_append, List.map_append, List.append_assoc]
      congr 2
      rw [List.length_map, hlr, ← hlz t, ← List.length_map (f := AV.d)]
      have : List.replicate (k - n) z = List.replicate t z ++ List.replicate (k - (n + t)) z := by
        rw [← rep_add]; congr 1; omega
      rw [this, List.flatten_append, List.map_append, List.drop_left]
    · rw [List.take_replicate, Nat.min_eq_left hlq]
      simp only [List.length_map, hlr, hlz]
      exact Nat.mul_le_mul_right _ hle
  rw [hput]
  simp [vi]
end Go.Ev

namespace Go.Ev
open Go Go.RowKit Go.Proofs
noncomputable def Cx : Ctx := addRun C1 500 [50]
theorem hPx : PrimOK Cx := addRun_ok hP1 hm0 500 _
def hdR (f sz k : Nat) (n : Int) (cs : List AV) : St := { σ := slots 48 [(7, .hs (site f 30) 0 0 k sz), (8, vi n)], h := hR (site f 30) cs }
def outR (f sz k : Nat) (cs : List AV) : St := { σ := slots 48 [(7, .hs (site f 30) 0 0 k sz)], h := hR (site f 30) cs }
def zN : List DV := [db false, db false, du 0, di 0, di 0, di 0]
def zI : List DV := [di 0]
theorem fill0 (r z : List DV) (k : Nat) : (List.replicate k (z.map AV.d)).flatten = fillC r z 0 k := by simp [fillC, fillR, List.map_flatten]
theorem plainNode : plainRow 6 node0 := ⟨rfl, by intro y hy; simp [node0] at hy; rcases hy with rfl | rfl | rfl <;> rfl⟩
theorem plainZ : plainRow 6 zN := ⟨rfl, by intro y hy; simp [zN] at hy; rcases hy with rfl | rfl | rfl <;> rfl⟩
theorem plainI (x : Int) : plainRow 1 [di x] := ⟨rfl, by intro y hy; simp at hy; subst hy; rfl⟩
theorem size69 : sizeT Cx 69 = some 6 := by kernel_rfl
theorem size3 : sizeT Cx 3 = some 1 := by kernel_rfl
theorem mul_ok : ((List.range 66).all fun n => match runSpec C1 500 50 [pu 1, pu n] with | some r => eqPs r [pu 0, pu n] | none => false) = true := by kernel_rfl
theorem mul_at {k : Nat} (h : k < 66) : runSpec C1 500 50 [pu 1, pu k] = some [pu 0, pu k] := by
  have := List.all_eq_true.1 mul_ok k (List.mem_range.2 h)
  split at this
  · rename_i r e
    rw [e, eqPs_eq this]
  · cases this

theorem rep51_step (n t n' : Int) (k m : Nat) (cs cs1 : List AV) (x : X) (st : St) : sym Cx noO 100 (.code 51 false (loopOf Tryz.prog 51 0) (hdR 51 6 k n cs)) [(site 51 37, .b true), (site 51 41, .cut m k k (.hs (site 51 30) 0 (0 + m * 6) (k - m) 6)), (site 51 44, .cut 0 m k (.hs (site 51 30) 0 (0 + 0 * 6) (m - 0) 6)), (site 51 45, .cpy (vi t) (hR (site 51 30) cs1)), (site 51 46, .int n'), (site 51 8001, .loop [7, 8] x st)] =
    some (.code x st, [], [decide (n < (k : Int)) = true, cutGoal 6 (.hs (site 51 30) 0 0 k 6) (some n) none none m k k (.hs (site 51 30) 0 (0 + m * 6) (k - m) 6), cutGoal 6 (.hs (site 51 30) 0 0 k 6) none (some n) none 0 m k (.hs (site 51 30) 0 (0 + 0 * 6) (m - 0) 6),
      copyOp Cx 69 (site 51 30) 0 (0 + m * 6) (k - m) 6 (.hs (site 51 30) 0 (0 + 0 * 6) (m - 0) 6) (hR (site 51 30) cs) = some (vi t, hR (site 51 30) cs1), IntKind.wrap .i64 (n + t) = n', Ev Cx noO (.code 51 false (loopOf Tryz.prog 51 0) (hdR 51 6 k n' cs1)) (.code x st)]) := by kernel_rfl
theorem rep51_exit (n : Int) (k : Nat) (cs : List AV) : symM Cx noO 100 51 false (loopOf Tryz.prog 51 0) (hdR 51 6 k n cs) [(site 51 37, .b false)] [7] = some ((.exit 0, outR 51 6 k cs), [], [decide (n < (k : Int)) = false]) := by kernel_rfl
theorem rep51_loop  : ∀ (d n k : Nat), k - n ≤ d → 0 < n → n ≤ k → k < 66 → Ev Cx noO (.code 51 false (loopOf Tryz.prog 51 0) (hdR 51 6 k (n : Int) (fillC node0 zN n k))) (.code (.exit 0) (outR 51 6 k (fillC node0 zN k k)))
  | 0, n, k, hd, h0, hn, hk => by
    obtain rfl : n = k := by omega
    exact symM_ev (rep51_exit _ _ _) (AllP_cons (decide_eq_false (by omega)) AllP_nil)
  | d + 1, n, k, hd, h0, hn, hk => by
    by_cases he : n = k
    · subst he
      exact symM_ev (rep51_exit _ _ _) (AllP_cons (decide_eq_false (by omega)) AllP_nil)
    · have ih := rep51_loop  d (n + Nat.min n (k - n)) k (by have : 0 < Nat.min n (k - n) := Nat.lt_min.2 ⟨h0, by omega⟩; omega) (by omega) (by have : Nat.min n (k - n) ≤ k - n := Nat.min_le_right _ _; omega) hk
      have ht : 0 < Nat.min n (k - n) := Nat.lt_min.2 ⟨h0, by omega⟩
      have ht2 : Nat.min n (k - n) ≤ k - n := Nat.min_le_right _ _
      have hcp := copy_fill (C := Cx) (s := site 51 30) (n := n) (k := k) (x := .hs (site 51 30) 0 (0 + 0 * 6) (n - 0) 6) (t := Nat.min n (k - n)) (r := node0) (z := zN) (more := List.replicate n node0) (elem := 69) (sz := 6) size69 (by decide) plainNode plainZ hn
        (by
          rw [show appArg 6 (hR (site 51 30) (fillC node0 zN n k)) (.hs (site 51 30) 0 (0 + 0 * 6) (n - 0) 6) = rowsOf (hR (site 51 30) (fillC node0 zN n k)) (.hs (site 51 30) 0 0 n 6) by simp [appArg]]
          refine rowsOf_hs (rest := (List.replicate (k - n) zN).flatten.map .d) (f := false) ?_ (by simp) (fun r hr => by rw [(List.mem_replicate.1 hr).2]; exact (plainNode).1) (fun r hr => by rw [(List.mem_replicate.1 hr).2]; exact (plainNode).2)
          rw [hR_get, fillC_split]) ⟨n, rfl, rfl⟩ ht
      refine sym_ev _ _ _ _ _ _ (rep51_step (n : Int) ((Nat.min n (k - n) : Nat) : Int) ((n + Nat.min n (k - n) : Nat) : Int) k n _ _ _ _) (AllP_cons (decide_eq_true (by omega)) (AllP_cons ⟨rfl, rfl, rfl, rfl, by omega, by omega, by omega, rfl⟩ (AllP_cons ⟨rfl, rfl, rfl, rfl, by omega, by omega, by omega, rfl⟩ (AllP_cons hcp (AllP_cons ?_ (AllP_cons ih AllP_nil))))))
      rw [wrap_ok (by omega) (by omega)]; simp
theorem rep51_call  (L : Int) (k : Nat) (cs1 cs2 : List AV) : sym Cx noO 100 (.call 51 [.d (.sl 6 true [node0]), vi L] {}) [(site 51 10, .b false), (site 51 17, .int L), (site 51 18, .prim [pu 0, pu L]), (site 51 25, .b false), (site 51 29, .int L), (site 51 30, .mks k), (site 51 33, .cpy (vi 1) (hR (site 51 30) cs1)), (site 51 8001, .loop [7, 8] (.exit 0) (outR 51 6 k cs2))] =
    some (.val (.hs (site 51 30) 0 0 k 6) (hR (site 51 30) cs2), [], [decide (L < 0) = false, IntKind.wrap .u64 L = L, runSpec C1 500 50 [pu 1, pu L] = some [pu 0, pu L], decide (L > 9223372036854775807) = false, IntKind.wrap .i64 L = L, L = (k : Int) ∧ L = (k : Int) ∧ k * 40 ≤ 2 ^ 40 ∧ k ≤ 2 ^ 40 ∧ 0 < 6 ∧ 6 = 6,
      copyOp Cx 69 (site 51 30) 0 0 k 6 (.d (.sl 6 true [node0])) (hR (site 51 30) ((List.replicate k (zN.map AV.d)).flatten)) = some (vi 1, hR (site 51 30) cs1), Ev Cx noO (.code 51 false (loopOf Tryz.prog 51 0) (hdR 51 6 k 1 cs1)) (.code (.exit 0) (outR 51 6 k cs2))]) := by kernel_rfl
theorem rep51_ev  (k : Nat) (h0 : 0 < k) (hk : k < 66) : Ev Cx noO (.call 51 [.d (.sl 6 true [node0]), vi (k : Int)] {}) (.val (.hs (site 51 30) 0 0 k 6) (hR (site 51 30) (fillC node0 zN k k))) := by
  have hmin : Nat.min 1 k = 1 := Nat.min_eq_left h0
  have hcp := copy_fill (C := Cx) (s := site 51 30) (n := 0) (k := k) (x := .d (.sl 6 true [node0])) (t := 1) (r := node0) (z := zN) (more := [node0]) (elem := 69) (sz := 6) size69 (by decide) plainNode plainZ (by omega) rfl ⟨1, rfl, by simp [hmin]⟩ (by decide)
  rw [Nat.zero_mul, Nat.zero_add, Nat.zero_add, Nat.sub_zero] at hcp
  refine sym_ev _ _ _ _ _ _ (rep51_call  (k : Int) k _ _) (AllP_cons (decide_eq_false (by omega)) (AllP_cons (wrapU_ok (by omega) (by omega)) (AllP_cons (mul_at hk) (AllP_cons (decide_eq_false (by omega)) (AllP_cons (wrap_ok (by omega) (by omega)) (AllP_cons ⟨rfl, rfl, by omega, by omega, by decide, rfl⟩ (AllP_cons ?_ (AllP_cons (rep51_loop  k 1 k (by omega) (by decide) h0 hk) AllP_nil))))))))
  rw [fill0 node0]
  exact hcp
def rep51Spec : List PV → Option (List PV)
  | [.one (.sl 6 true [r]), .one (.v (.int .i64 n))] => if 0 ≤ n ∧ n < 66 then some [.one (.sl 6 false (List.replicate n.toNat r))] else none
  | _ => none
theorem rep51_zero  : runSpec Cx 500 51 [.one (.sl 6 true [node0]), pint 0] = some [.one (.sl 6 false [])] := by kernel_rfl
theorem rep51_res (row z : List DV) (hr : plainRow 6 row) (k : Nat) : ∃ h2, resA (hR (site 51 30) (fillC row z k k)) (.hs (site 51 30) 0 0 k 6) = some ([.one (.sl 6 false (List.replicate k row))], h2) := by
  have e : rowsOf (hR (site 51 30) (fillC row z k k)) (.hs (site 51 30) 0 0 k 6) = some (6, List.replicate k row) :=
    rowsOf_hs (rest := []) (f := false) (by rw [hR_get, fillC_split]; simp) (by simp) (fun r h => by rw [(List.mem_replicate.1 h).2]; exact hr.1) (fun r h => by rw [(List.mem_replicate.1 h).2]; exact hr.2)
  simp only [resA, freeze1, freeze0, hR_get, e]
  exact ⟨_, rfl⟩

theorem rep26_step (n t n' : Int) (k m : Nat) (cs cs1 : List AV) (x : X) (st : St) : sym Cx noO 100 (.code 26 false (loopOf Tryz.prog 26 0) (hdR 26 1 k n cs)) [(site 26 37, .b true), (site 26 41, .cut m k k (.hs (site 26 30) 0 (0 + m * 1) (k - m) 1)), (site 26 44, .cut 0 m k (.hs (site 26 30) 0 (0 + 0 * 1) (m - 0) 1)), (site 26 45, .cpy (vi t) (hR (site 26 30) cs1)), (site 26 46, .int n'), (site 26 8001, .loop [7, 8] x st)] =
    some (.code x st, [], [decide (n < (k : Int)) = true, cutGoal 1 (.hs (site 26 30) 0 0 k 1) (some n) none none m k k (.hs (site 26 30) 0 (0 + m * 1) (k - m) 1), cutGoal 1 (.hs (site 26 30) 0 0 k 1) none (some n) none 0 m k (.hs (site 26 30) 0 (0 + 0 * 1) (m - 0) 1),
      copyOp Cx 3 (site 26 30) 0 (0 + m * 1) (k - m) 1 (.hs (site 26 30) 0 (0 + 0 * 1) (m - 0) 1) (hR (site 26 30) cs) = some (vi t, hR (site 26 30) cs1), IntKind.wrap .i64 (n + t) = n', Ev Cx noO (.code 26 false (loopOf Tryz.prog 26 0) (hdR 26 1 k n' cs1)) (.code x st)]) := by kernel_rfl
theorem rep26_exit (n : Int) (k : Nat) (cs : List AV) : symM Cx noO 100 26 false (loopOf Tryz.prog 26 0) (hdR 26 1 k n cs) [(site 26 37, .b false)] [7] = some ((.exit 0, outR 26 1 k cs), [], [decide (n < (k : Int)) = false]) := by kernel_rfl
theorem rep26_loop (x : Int) : ∀ (d n k : Nat), k - n ≤ d → 0 < n → n ≤ k → k < 66 → Ev Cx noO (.code 26 false (loopOf Tryz.prog 26 0) (hdR 26 1 k (n : Int) (fillC [di x] zI n k))) (.code (.exit 0) (outR 26 1 k (fillC [di x] zI k k)))
  | 0, n, k, hd, h0, hn, hk => by
    obtain rfl : n = k := by omega
    exact symM_ev (rep26_exit _ _ _) (AllP_cons (decide_eq_false (by omega)) AllP_nil)
  | d + 1, n, k, hd, h0, hn, hk => by
    by_cases he : n = k
    · subst he
      exact symM_ev (rep26_exit _ _ _) (AllP_cons (decide_eq_false (by omega)) AllP_nil)
    · have ih := rep26_loop x d (n + Nat.min n (k - n)) k (by have : 0 < Nat.min n (k - n) := Nat.lt_min.2 ⟨h0, by omega⟩; omega) (by omega) (by have : Nat.min n (k - n) ≤ k - n := Nat.min_le_right _ _; omega) hk
      have ht : 0 < Nat.min n (k - n) := Nat.lt_min.2 ⟨h0, by omega⟩
      have ht2 : Nat.min n (k - n) ≤ k - n := Nat.min_le_right _ _
      have hcp := copy_fill (C := Cx) (s := site 26 30) (n := n) (k := k) (x := .hs (site 26 30) 0 (0 + 0 * 1) (n - 0) 1) (t := Nat.min n (k - n)) (r := [di x]) (z := zI) (more := List.replicate n [di x]) (elem := 3) (sz := 1) size3 (by decide) (plainI x) (plainI 0) hn
        (by
          rw [show appArg 1 (hR (site 26 30) (fillC [di x] zI n k)) (.hs (site 26 30) 0 (0 + 0 * 1) (n - 0) 1) = rowsOf (hR (site 26 30) (fillC [di x] zI n k)) (.hs (site 26 30) 0 0 n 1) by simp [appArg]]
          refine rowsOf_hs (rest := (List.replicate (k - n) zI).flatten.map .d) (f := false) ?_ (by simp) (fun r hr => by rw [(List.mem_replicate.1 hr).2]; exact ((plainI x)).1) (fun r hr => by rw [(List.mem_replicate.1 hr).2]; exact ((plainI x)).2)
          rw [hR_get, fillC_split]) ⟨n, rfl, rfl⟩ ht
      refine sym_ev _ _ _ _ _ _ (rep26_step (n : Int) ((Nat.min n (k - n) : Nat) : Int) ((n + Nat.min n (k - n) : Nat) : Int) k n _ _ _ _) (AllP_cons (decide_eq_true (by omega)) (AllP_cons ⟨rfl, rfl, rfl, rfl, by omega, by omega, by omega, rfl⟩ (AllP_cons ⟨rfl, rfl, rfl, rfl, by omega, by omega, by omega, rfl⟩ (AllP_cons hcp (AllP_cons ?_ (AllP_cons ih AllP_nil))))))
      rw [wrap_ok (by omega) (by omega)]; simp
theorem rep26_call (x : Int) (L : Int) (k : Nat) (cs1 cs2 : List AV) : sym Cx noO 100 (.call 26 [.d (.sl 1 true [[di x]]), vi L] {}) [(site 26 10, .b false), (site 26 17, .int L), (site 26 18, .prim [pu 0, pu L]), (site 26 25, .b false), (site 26 29, .int L), (site 26 30, .mks k), (site 26 33, .cpy (vi 1) (hR (site 26 30) cs1)), (site 26 8001, .loop [7, 8] (.exit 0) (outR 26 1 k cs2))] =
    some (.val (.hs (site 26 30) 0 0 k 1) (hR (site 26 30) cs2), [], [decide (L < 0) = false, IntKind.wrap .u64 L = L, runSpec C1 500 50 [pu 1, pu L] = some [pu 0, pu L], decide (L > 9223372036854775807) = false, IntKind.wrap .i64 L = L, L = (k : Int) ∧ L = (k : Int) ∧ k * 8 ≤ 2 ^ 40 ∧ k ≤ 2 ^ 40 ∧ 0 < 1 ∧ 1 = 1,
      copyOp Cx 3 (site 26 30) 0 0 k 1 (.d (.sl 1 true [[di x]])) (hR (site 26 30) ((List.replicate k (zI.map AV.d)).flatten)) = some (vi 1, hR (site 26 30) cs1), Ev Cx noO (.code 26 false (loopOf Tryz.prog 26 0) (hdR 26 1 k 1 cs1)) (.code (.exit 0) (outR 26 1 k cs2))]) := by kernel_rfl
theorem rep26_ev (x : Int) (k : Nat) (h0 : 0 < k) (hk : k < 66) : Ev Cx noO (.call 26 [.d (.sl 1 true [[di x]]), vi (k : Int)] {}) (.val (.hs (site 26 30) 0 0 k 1) (hR (site 26 30) (fillC [di x] zI k k))) := by
  have hmin : Nat.min 1 k = 1 := Nat.min_eq_left h0
  have hcp := copy_fill (C := Cx) (s := site 26 30) (n := 0) (k := k) (x := .d (.sl 1 true [[di x]])) (t := 1) (r := [di x]) (z := zI) (more := [[di x]]) (elem := 3) (sz := 1) size3 (by decide) (plainI x) (plainI 0) (by omega) rfl ⟨1, rfl, by simp [hmin]⟩ (by decide)
  rw [Nat.zero_mul, Nat.zero_add, Nat.zero_add, Nat.sub_zero] at hcp
  refine sym_ev _ _ _ _ _ _ (rep26_call x (k : Int) k _ _) (AllP_cons (decide_eq_false (by omega)) (AllP_cons (wrapU_ok (by omega) (by omega)) (AllP_cons (mul_at hk) (AllP_cons (decide_eq_false (by omega)) (AllP_cons (wrap_ok (by omega) (by omega)) (AllP_cons ⟨rfl, rfl, by omega, by omega, by decide, rfl⟩ (AllP_cons ?_ (AllP_cons (rep26_loop x k 1 k (by omega) (by decide) h0 hk) AllP_nil))))))))
  rw [fill0 [di x]]
  exact hcp
def rep26Spec : List PV → Option (List PV)
  | [.one (.sl 1 true [[.v (.int .i64 x)]]), .one (.v (.int .i64 n))] => if 0 ≤ n ∧ n < 66 then some [.one (.sl 1 false (List.replicate n.toNat [di x]))] else none
  | _ => none
theorem rep26_zero (x : Int) : runSpec Cx 500 26 [.one (.sl 1 true [[di x]]), pint 0] = some [.one (.sl 1 false [])] := by kernel_rfl
theorem rep26_res (row z : List DV) (hr : plainRow 1 row) (k : Nat) : ∃ h2, resA (hR (site 26 30) (fillC row z k k)) (.hs (site 26 30) 0 0 k 1) = some ([.one (.sl 1 false (List.replicate k row))], h2) := by
  have e : rowsOf (hR (site 26 30) (fillC row z k k)) (.hs (site 26 30) 0 0 k 1) = some (1, List.replicate k row) :=
    rowsOf_hs (rest := []) (f := false) (by rw [hR_get, fillC_split]; simp) (by simp) (fun r h => by rw [(List.mem_replicate.1 h).2]; exact hr.1) (fun r h => by rw [(List.mem_replicate.1 h).2]; exact hr.2)
  simp only [resA, freeze1, freeze0, hR_get, e]
  exact ⟨_, rfl⟩
end Go.Ev

namespace Go.Ev
open Go Go.RowKit Go.Proofs
abbrev Spec := List PV → Option (List PV)
theorem count_loop {C : Ctx} {O : Task → Res → Prop} {f : FuncId} {c : Code} {x : X} {out : St} (hd : Nat → St) (n : Nat) (hexit : Ev C O (.code f false c (hd n)) (.code x out))
    (hstep : ∀ i, i < n → Ev C O (.code f false c (hd (i + 1))) (.code x out) → Ev C O (.code f false c (hd i)) (.code x out)) : ∀ (d i : Nat), i + d = n → Ev C O (.code f false c (hd i)) (.code x out)
  | 0, i, h => by
    obtain rfl : i = n := by omega
    exact hexit
  | d + 1, i, h => hstep i (by omega) (count_loop hd n hexit hstep d (i + 1) (by omega))
def apA (sz : Nat) (r : List DV) (s : Nat) : Nat → AV
  | 0 => .d dnil
  | i + 1 => .st sz (List.replicate (i + 1) r) s (2 * i + 1)
def apT (s : Nat) : Nat → List (Nat × Nat)
  | 0 => []
  | i + 1 => [(s, 2 * i + 1)]
theorem rep_snoc {α : Type} (n : Nat) (r : α) : List.replicate n r ++ [r] = List.replicate (n + 1) r := by rw [List.replicate_succ']
theorem fits_small {n by_ : Nat} (hn : n < 2 ^ 30) (hb : by_ ≤ 1024) : fitsP n 1 by_ := by
  have h1 : (2 * (n + 1) + 1000) * by_ ≤ (2 * (n + 1) + 1000) * 1024 := Nat.mul_le_mul_left _ hb
  have h2 : n ≤ 1073741823 := Nat.le_of_lt_succ hn
  have h3 : (2 * (n + 1) + 1000) * 1024 ≤ (2 * (1073741823 + 1) + 1000) * 1024 := Nat.mul_le_mul_right _ (by omega)
  exact Nat.le_trans h1 (Nat.le_trans h3 (of_decide_eq_true rfl))

def hd28 (n i : Int) (a : AV) (t : List (Nat × Nat)) : St := { σ := slots 26 [(0, vi n), (2, .ptr (site 28 2) 0 0), (4, .ptr (site 28 4) 0 0), (5, vi i)], h := { objs := [(site 28 2, 1, [.cells [.d (di 0), .d dnil] false]), (site 28 4, 1, [.cells [.d (di (-1)), a] false])], toks := t } }
def out28 (a : AV) (t : List (Nat × Nat)) : St := { σ := slots 26 [(2, .ptr (site 28 2) 0 0), (4, .ptr (site 28 4) 0 0)], h := { objs := [(site 28 2, 1, [.cells [.d (di 0), .d dnil] false]), (site 28 4, 1, [.cells [.d (di (-1)), a] false])], toks := t } }
theorem ap28_exit (n i : Int) (a : AV) (t : List (Nat × Nat)) : symM C1 noO 100 28 false (loopOf Tryz.prog 28 0) (hd28 n i a t) [(site 28 16, .b false)] [2, 4] = some ((.exit 0, out28 a t), [], [decide (i < n) = false]) := by kernel_rfl
theorem ap28_nil (n i i' : Int) (x : X) (st : St) : sym C1 noO 100 (.code 28 false (loopOf Tryz.prog 28 0) (hd28 n i (.d dnil) [])) [(site 28 16, .b true), (site 28 23, .app false), (site 28 18, .int i'), (site 28 8001, .loop [0, 2, 4, 5] x st)] =
    some (.code x st, [], [decide (i < n) = true, false = false ∧ fitsP 0 1 40, IntKind.wrap .i64 (i + 1) = i', Ev C1 noO (.code 28 false (loopOf Tryz.prog 28 0) (hd28 n i' (.st 6 [node0] (site 28 23) 1) [(site 28 23, 1)])) (.code x st)]) := by kernel_rfl
theorem ap28_st (n i i' : Int) (rows : List (List DV)) (g : Nat) (x : X) (st : St) : sym C1 noO 100 (.code 28 false (loopOf Tryz.prog 28 0) (hd28 n i (.st 6 rows (site 28 23) g) [(site 28 23, g)])) [(site 28 16, .b true), (site 28 23, .app false), (site 28 18, .int i'), (site 28 8001, .loop [0, 2, 4, 5] x st)] =
    some (.code x st, [], [decide (i < n) = true, false = false ∧ g = g ∧ fitsP rows.length 1 40, IntKind.wrap .i64 (i + 1) = i', Ev C1 noO (.code 28 false (loopOf Tryz.prog 28 0) (hd28 n i' (.st 6 (rows ++ [node0]) (site 28 23) (g + 1 + 1)) [(site 28 23, g + 1 + 1)])) (.code x st)]) := by kernel_rfl
theorem ap28_loop (n : Nat) (hn : n < 2 ^ 30) : Ev C1 noO (.code 28 false (loopOf Tryz.prog 28 0) (hd28 n 0 (.d dnil) [])) (.code (.exit 0) (out28 (apA 6 node0 (site 28 23) n) (apT (site 28 23) n))) := by
  refine count_loop (fun i => hd28 n i (apA 6 node0 (site 28 23) i) (apT (site 28 23) i)) n (symM_ev (ap28_exit _ _ _ _) (AllP_cons (decide_eq_false (by omega)) AllP_nil)) (fun i hi ih => ?_) n 0 (by omega)
  cases i with
  | zero =>
    refine sym_ev _ _ _ _ _ _ (ap28_nil _ _ ((0 + 1 : Nat) : Int) _ _) (AllP_cons (decide_eq_true (by omega)) (AllP_cons ⟨rfl, fits_small (by decide) (by decide)⟩ (AllP_cons (wrap_succ (i := 0) (by decide)) (AllP_cons ih AllP_nil))))
  | succ i =>
    refine sym_ev _ _ _ _ _ _ (ap28_st _ _ ((i + 1 + 1 : Nat) : Int) _ _ _ _) (AllP_cons (decide_eq_true (by omega)) (AllP_cons ⟨rfl, rfl, fits_small (by simp; omega) (by decide)⟩ (AllP_cons (wrap_succ (by omega)) (AllP_cons ?_ AllP_nil))))
    rw [rep_snoc]
    exact ih
theorem ap28_call (n : Int) (rows : List (List DV)) (g : Nat) : sym C1 noO 100 (.call 28 [vi n] {}) [(site 28 7, .b false), (site 28 10, .b false), (site 28 8001, .loop [0, 2, 4, 5] (.exit 0) (out28 (.st 6 rows (site 28 23) g) [(site 28 23, g)]))] =
    some (.val (.tup [.agg [.d (di (-1)), .st 6 rows (site 28 23) g], vi 0]) { objs := [(site 28 2, 1, [.cells [.d (di (-1)), .st 6 rows (site 28 23) g] false]), (site 28 4, 1, [.cells [.d (di (-1)), .st 6 rows (site 28 23) g] false])], toks := [(site 28 23, g)] }, [],
      [decide (n < 0) = false, decide (n > 64) = false, Ev C1 noO (.code 28 false (loopOf Tryz.prog 28 0) (hd28 n 0 (.d dnil) [])) (.code (.exit 0) (out28 (.st 6 rows (site 28 23) g) [(site 28 23, g)]))]) := by kernel_rfl
theorem ap28_zero : symV C1 noO 100 28 [pint 0] [] = some ([.agg [di (-1), rowD 6 []], pint 0], [], []) := by kernel_rfl
def new28Spec : Spec
  | [.one (.v (.int .i64 n))] => if 0 ≤ n ∧ n ≤ 64 then some [.agg [di (-1), rowD 6 (List.replicate n.toNat node0)], pint 0] else none
  | _ => none
theorem new28_sat : Sat C1 28 new28Spec := sat_of_ev (O := noO) hP1 (fun _ _ h => h.elim) hm0 fun ps rs hs => by
  unfold new28Spec at hs
  split at hs
  · rename_i n
    split at hs
    · rename_i hc
      simp only [Option.some.injEq] at hs
      subst hs
      obtain ⟨k, rfl⟩ := Int.eq_ofNat_of_zero_le hc.1
      simp only [Int.toNat_natCast]
      cases k with
      | zero => exact symV_ev ap28_zero AllP_nil
      | succ k =>
        exact ⟨_, _, _, sym_ev _ _ _ _ _ _ (ap28_call ((k + 1 : Nat) : Int) (List.replicate (k + 1) node0) (2 * k + 1)) (AllP_cons (decide_eq_false (by omega)) (AllP_cons (decide_eq_false (by omega)) (AllP_cons (ap28_loop (k + 1) (by omega)) AllP_nil))), rfl⟩
    · cases hs
  · cases hs

def hd15 (n i : Int) (a : AV) (t : List (Nat × Nat)) : St := { σ := slots 25 [(0, vi n), (2, .ptr (site 15 2) 0 0), (4, .ptr (site 15 4) 0 0), (5, vi i)], h := { objs := [(site 15 2, 1, [.cells [.d (di 0), .d dnil] false]), (site 15 4, 1, [.cells [.d (di (-1)), a] false])], toks := t } }
def out15 (a : AV) (t : List (Nat × Nat)) : St := { σ := slots 25 [(2, .ptr (site 15 2) 0 0), (4, .ptr (site 15 4) 0 0)], h := { objs := [(site 15 2, 1, [.cells [.d (di 0), .d dnil] false]), (site 15 4, 1, [.cells [.d (di (-1)), a] false])], toks := t } }
theorem ap15_exit (n i : Int) (a : AV) (t : List (Nat × Nat)) : symM C1 noO 100 15 false (loopOf Tryz.prog 15 0) (hd15 n i a t) [(site 15 16, .b false)] [2, 4] = some ((.exit 0, out15 a t), [], [decide (i < n) = false]) := by kernel_rfl
theorem ap15_nil (n i i' : Int) (x : X) (st : St) : sym C1 noO 100 (.code 15 false (loopOf Tryz.prog 15 0) (hd15 n i (.d dnil) [])) [(site 15 16, .b true), (site 15 22, .app false), (site 15 18, .int i'), (site 15 8001, .loop [0, 2, 4, 5] x st)] =
    some (.code x st, [], [decide (i < n) = true, false = false ∧ fitsP 0 1 8, IntKind.wrap .i64 (i + 1) = i', Ev C1 noO (.code 15 false (loopOf Tryz.prog 15 0) (hd15 n i' (.st 1 [[di (-2)]] (site 15 22) 1) [(site 15 22, 1)])) (.code x st)]) := by kernel_rfl
theorem ap15_st (n i i' : Int) (rows : List (List DV)) (g : Nat) (x : X) (st : St) : sym C1 noO 100 (.code 15 false (loopOf Tryz.prog 15 0) (hd15 n i (.st 1 rows (site 15 22) g) [(site 15 22, g)])) [(site 15 16, .b true), (site 15 22, .app false), (site 15 18, .int i'), (site 15 8001, .loop [0, 2, 4, 5] x st)] =
    some (.code x st, [], [decide (i < n) = true, false = false ∧ g = g ∧ fitsP rows.length 1 8, IntKind.wrap .i64 (i + 1) = i', Ev C1 noO (.code 15 false (loopOf Tryz.prog 15 0) (hd15 n i' (.st 1 (rows ++ [[di (-2)]]) (site 15 22) (g + 1 + 1)) [(site 15 22, g + 1 + 1)])) (.code x st)]) := by kernel_rfl
theorem ap15_loop (n : Nat) (hn : n < 2 ^ 30) : Ev C1 noO (.code 15 false (loopOf Tryz.prog 15 0) (hd15 n 0 (.d dnil) [])) (.code (.exit 0) (out15 (apA 1 [di (-2)] (site 15 22) n) (apT (site 15 22) n))) := by
  refine count_loop (fun i => hd15 n i (apA 1 [di (-2)] (site 15 22) i) (apT (site 15 22) i)) n (symM_ev (ap15_exit _ _ _ _) (AllP_cons (decide_eq_false (by omega)) AllP_nil)) (fun i hi ih => ?_) n 0 (by omega)
  cases i with
  | zero =>
    refine sym_ev _ _ _ _ _ _ (ap15_nil _ _ ((0 + 1 : Nat) : Int) _ _) (AllP_cons (decide_eq_true (by omega)) (AllP_cons ⟨rfl, fits_small (by decide) (by decide)⟩ (AllP_cons (wrap_succ (i := 0) (by decide)) (AllP_cons ih AllP_nil))))
  | succ i =>
    refine sym_ev _ _ _ _ _ _ (ap15_st _ _ ((i + 1 + 1 : Nat) : Int) _ _ _ _) (AllP_cons (decide_eq_true (by omega)) (AllP_cons ⟨rfl, rfl, fits_small (by simp; omega) (by decide)⟩ (AllP_cons (wrap_succ (by omega)) (AllP_cons ?_ AllP_nil))))
    rw [rep_snoc]
    exact ih
theorem ap15_call (n : Int) (rows : List (List DV)) (g : Nat) : sym C1 noO 100 (.call 15 [vi n] {}) [(site 15 7, .b false), (site 15 10, .b false), (site 15 8001, .loop [0, 2, 4, 5] (.exit 0) (out15 (.st 1 rows (site 15 22) g) [(site 15 22, g)]))] =
    some (.val (.tup [.agg [.d (di (-1)), .st 1 rows (site 15 22) g], vi 0]) { objs := [(site 15 2, 1, [.cells [.d (di (-1)), .st 1 rows (site 15 22) g] false]), (site 15 4, 1, [.cells [.d (di (-1)), .st 1 rows (site 15 22) g] false])], toks := [(site 15 22, g)] }, [],
      [decide (n < 0) = false, decide (n > 64) = false, Ev C1 noO (.code 15 false (loopOf Tryz.prog 15 0) (hd15 n 0 (.d dnil) [])) (.code (.exit 0) (out15 (.st 1 rows (site 15 22) g) [(site 15 22, g)]))]) := by kernel_rfl
theorem ap15_zero : symV C1 noO 100 15 [pint 0] [] = some ([.agg [di (-1), rowD 1 []], pint 0], [], []) := by kernel_rfl
def new15Spec : Spec
  | [.one (.v (.int .i64 n))] => if 0 ≤ n ∧ n ≤ 64 then some [.agg [di (-1), rowD 1 (List.replicate n.toNat [di (-2)])], pint 0] else none
  | _ => none
theorem new15_sat : Sat C1 15 new15Spec := sat_of_ev (O := noO) hP1 (fun _ _ h => h.elim) hm0 fun ps rs hs => by
  unfold new15Spec at hs
  split at hs
  · rename_i n
    split at hs
    · rename_i hc
      simp only [Option.some.injEq] at hs
      subst hs
      obtain ⟨k, rfl⟩ := Int.eq_ofNat_of_zero_le hc.1
      simp only [Int.toNat_natCast]
      cases k with
      | zero => exact symV_ev ap15_zero AllP_nil
      | succ k =>
        exact ⟨_, _, _, sym_ev _ _ _ _ _ _ (ap15_call ((k + 1 : Nat) : Int) (List.replicate (k + 1) [di (-2)]) (2 * k + 1)) (AllP_cons (decide_eq_false (by omega)) (AllP_cons (decide_eq_false (by omega)) (AllP_cons (ap15_loop (k + 1) (by omega)) AllP_nil))), rfl⟩
    · cases hs
  · cases hs

def hd13 (n i : Int) (a : AV) (t : List (Nat × Nat)) : St := { σ := slots 24 [(0, vi n), (2, .ptr (site 13 2) 0 0), (4, .ptr (site 13 4) 0 0), (5, vi i)], h := { objs := [(site 13 2, 1, [.cells [.d dnil] false]), (site 13 4, 1, [.cells [a] false])], toks := t } }
def out13 (a : AV) (t : List (Nat × Nat)) : St := { σ := slots 24 [(2, .ptr (site 13 2) 0 0), (4, .ptr (site 13 4) 0 0)], h := { objs := [(site 13 2, 1, [.cells [.d dnil] false]), (site 13 4, 1, [.cells [a] false])], toks := t } }
theorem ap13_exit (n i : Int) (a : AV) (t : List (Nat × Nat)) : symM C1 noO 100 13 false (loopOf Tryz.prog 13 0) (hd13 n i a t) [(site 13 15, .b false)] [2, 4] = some ((.exit 0, out13 a t), [], [decide (i < n) = false]) := by kernel_rfl
theorem ap13_nil (n i i' : Int) (x : X) (st : St) : sym C1 noO 100 (.code 13 false (loopOf Tryz.prog 13 0) (hd13 n i (.d dnil) [])) [(site 13 15, .b true), (site 13 21, .app false), (site 13 17, .int i'), (site 13 8001, .loop [0, 2, 4, 5] x st)] =
    some (.code x st, [], [decide (i < n) = true, false = false ∧ fitsP 0 1 8, IntKind.wrap .i64 (i + 1) = i', Ev C1 noO (.code 13 false (loopOf Tryz.prog 13 0) (hd13 n i' (.st 1 [[di (-1)]] (site 13 21) 1) [(site 13 21, 1)])) (.code x st)]) := by kernel_rfl
theorem ap13_st (n i i' : Int) (rows : List (List DV)) (g : Nat) (x : X) (st : St) : sym C1 noO 100 (.code 13 false (loopOf Tryz.prog 13 0) (hd13 n i (.st 1 rows (site 13 21) g) [(site 13 21, g)])) [(site 13 15, .b true), (site 13 21, .app false), (site 13 17, .int i'), (site 13 8001, .loop [0, 2, 4, 5] x st)] =
    some (.code x st, [], [decide (i < n) = true, false = false ∧ g = g ∧ fitsP rows.length 1 8, IntKind.wrap .i64 (i + 1) = i', Ev C1 noO (.code 13 false (loopOf Tryz.prog 13 0) (hd13 n i' (.st 1 (rows ++ [[di (-1)]]) (site 13 21) (g + 1 + 1)) [(site 13 21, g + 1 + 1)])) (.code x st)]) := by kernel_rfl
theorem ap13_loop (n : Nat) (hn : n < 2 ^ 30) : Ev C1 noO (.code 13 false (loopOf Tryz.prog 13 0) (hd13 n 0 (.d dnil) [])) (.code (.exit 0) (out13 (apA 1 [di (-1)] (site 13 21) n) (apT (site 13 21) n))) := by
  refine count_loop (fun i => hd13 n i (apA 1 [di (-1)] (site 13 21) i) (apT (site 13 21) i)) n (symM_ev (ap13_exit _ _ _ _) (AllP_cons (decide_eq_false (by omega)) AllP_nil)) (fun i hi ih => ?_) n 0 (by omega)
  cases i with
  | zero =>
    refine sym_ev _ _ _ _ _ _ (ap13_nil _ _ ((0 + 1 : Nat) : Int) _ _) (AllP_cons (decide_eq_true (by omega)) (AllP_cons ⟨rfl, fits_small (by decide) (by decide)⟩ (AllP_cons (wrap_succ (i := 0) (by decide)) (AllP_cons ih AllP_nil))))
  | succ i =>
    refine sym_ev _ _ _ _ _ _ (ap13_st _ _ ((i + 1 + 1 : Nat) : Int) _ _ _ _) (AllP_cons (decide_eq_true (by omega)) (AllP_cons ⟨rfl, rfl, fits_small (by simp; omega) (by decide)⟩ (AllP_cons (wrap_succ (by omega)) (AllP_cons ?_ AllP_nil))))
    rw [rep_snoc]
    exact ih
theorem ap13_call (n : Int) (rows : List (List DV)) (g : Nat) : sym C1 noO 100 (.call 13 [vi n] {}) [(site 13 7, .b false), (site 13 10, .b false), (site 13 8001, .loop [0, 2, 4, 5] (.exit 0) (out13 (.st 1 rows (site 13 21) g) [(site 13 21, g)]))] =
    some (.val (.tup [.agg [.st 1 rows (site 13 21) g], vi 0]) { objs := [(site 13 2, 1, [.cells [.st 1 rows (site 13 21) g] false]), (site 13 4, 1, [.cells [.st 1 rows (site 13 21) g] false])], toks := [(site 13 21, g)] }, [],
      [decide (n < 0) = false, decide (n > 65) = false, Ev C1 noO (.code 13 false (loopOf Tryz.prog 13 0) (hd13 n 0 (.d dnil) [])) (.code (.exit 0) (out13 (.st 1 rows (site 13 21) g) [(site 13 21, g)]))]) := by kernel_rfl
theorem ap13_zero : symV C1 noO 100 13 [pint 0] [] = some ([.agg [rowD 1 []], pint 0], [], []) := by kernel_rfl
def new13Spec : Spec
  | [.one (.v (.int .i64 n))] => if 0 ≤ n ∧ n ≤ 65 then some [.agg [rowD 1 (List.replicate n.toNat [di (-1)])], pint 0] else none
  | _ => none
theorem new13_sat : Sat C1 13 new13Spec := sat_of_ev (O := noO) hP1 (fun _ _ h => h.elim) hm0 fun ps rs hs => by
  unfold new13Spec at hs
  split at hs
  · rename_i n
    split at hs
    · rename_i hc
      simp only [Option.some.injEq] at hs
      subst hs
      obtain ⟨k, rfl⟩ := Int.eq_ofNat_of_zero_le hc.1
      simp only [Int.toNat_natCast]
      cases k with
      | zero => exact symV_ev ap13_zero AllP_nil
      | succ k =>
        exact ⟨_, _, _, sym_ev _ _ _ _ _ _ (ap13_call ((k + 1 : Nat) : Int) (List.replicate (k + 1) [di (-1)]) (2 * k + 1)) (AllP_cons (decide_eq_false (by omega)) (AllP_cons (decide_eq_false (by omega)) (AllP_cons (ap13_loop (k + 1) (by omega)) AllP_nil))), rfl⟩
    · cases hs
  · cases hs
end Go.Ev

namespace Go.Ev
open Go Go.RowKit Go.Proofs
def addSpec (C : Ctx) (g : FuncId) (s : Spec) : Ctx := { C with prim := fun f => if f == g then some s else C.prim f }
theorem addSpec_ok {C : Ctx} (hP : PrimOK C) {g : FuncId} {s : Spec} (hs : Sat C g s) (hb : hasBody C g = true) : PrimOK (addSpec C g s) := by
  refine ⟨?_, hP.2⟩
  intro f spec h
  simp only [addSpec] at h
  split at h
  · rename_i hc
    simp only [Option.some.injEq] at h
    subst h
    have hc : f = g := by simpa using hc
    subst hc
    exact ⟨hs.ctx rfl rfl, hasBody_eq hb⟩
  · obtain ⟨h1, h2⟩ := hP.1 f spec h
    exact ⟨h1.ctx rfl rfl, h2⟩
theorem rep51_z : symV Cx noO 100 51 [.one (.sl 6 true [node0]), pint 0] [] = some ([.one (.sl 6 false [])], [], []) := by kernel_rfl
theorem rep26_z (x : Int) : symV Cx noO 100 26 [.one (.sl 1 true [[di x]]), pint 0] [] = some ([.one (.sl 1 false [])], [], []) := by kernel_rfl
def rep51S : Spec
  | [.one (.sl 6 true [r]), .one (.v (.int .i64 n))] => if eqDL r node0 = true ∧ 0 ≤ n ∧ n < 66 then some [.one (.sl 6 false (List.replicate n.toNat node0))] else none
  | _ => none
def rep26S : Spec
  | [.one (.sl 1 true [[.v (.int .i64 x)]]), .one (.v (.int .i64 n))] => if 0 ≤ n ∧ n < 66 then some [.one (.sl 1 false (List.replicate n.toNat [di x]))] else none
  | _ => none
theorem rep51_sat : Sat Cx 51 rep51S := sat_of_ev (O := noO) hPx (fun _ _ h => h.elim) hm0 fun ps rs hs => by
  unfold rep51S at hs
  split at hs
  · rename_i r n
    split at hs
    · rename_i hc
      obtain ⟨hr, h0, h1⟩ := hc
      obtain rfl := eqDL_eq hr
      simp only [Option.some.injEq] at hs
      subst hs
      obtain ⟨k, rfl⟩ := Int.eq_ofNat_of_zero_le h0
      simp only [Int.toNat_natCast]
      cases k with
      | zero => exact symV_ev rep51_z AllP_nil
      | succ k =>
        obtain ⟨h2, e⟩ := rep51_res node0 zN plainNode (k + 1)
        exact ⟨_, _, h2, rep51_ev (k + 1) (by omega) (by omega), e⟩
    · cases hs
  · cases hs
theorem rep26_sat : Sat Cx 26 rep26S := sat_of_ev (O := noO) hPx (fun _ _ h => h.elim) hm0 fun ps rs hs => by
  unfold rep26S at hs
  split at hs
  · rename_i x n
    split at hs
    · rename_i hc
      obtain ⟨h0, h1⟩ := hc
      simp only [Option.some.injEq] at hs
      subst hs
      obtain ⟨k, rfl⟩ := Int.eq_ofNat_of_zero_le h0
      simp only [Int.toNat_natCast]
      cases k with
      | zero => exact symV_ev (rep26_z x) AllP_nil
      | succ k =>
        obtain ⟨h2, e⟩ := rep26_res [di x] zI (plainI x) (k + 1)
        exact ⟨_, _, h2, rep26_ev x (k + 1) (by omega) (by omega), e⟩
    · cases hs
  · cases hs
noncomputable def CR : Ctx := addSpec (addSpec C1 51 rep51S) 26 rep26S
theorem hPR : PrimOK CR := addSpec_ok (addSpec_ok hP1 (rep51_sat.ctx rfl rfl) (by kernel_rfl)) (rep26_sat.ctx rfl rfl) (by kernel_rfl)

theorem new27_run (n : Int) (rows : List (List DV)) : symV CR noO 100 27 [pint n] [(site 27 5, .b false), (site 27 8, .b false), (site 27 14, .prim [.one (.sl 6 false rows)])] =
    some ([.agg [di (-1), .sl 6 false rows], pint 0], [], [decide (n < 0) = false, decide (n > 64) = false, rep51S [.one (.sl 6 true [node0]), pint n] = some [.one (.sl 6 false rows)]]) := by kernel_rfl
def new27Spec : Spec
  | [.one (.v (.int .i64 n))] => if 0 ≤ n ∧ n ≤ 64 then some [.agg [di (-1), .sl 6 false (List.replicate n.toNat node0)], pint 0] else none
  | _ => none
theorem new27_sat : Sat CR 27 new27Spec := sat_of_ev (O := noO) hPR (fun _ _ h => h.elim) hm0 fun ps rs hs => by
  unfold new27Spec at hs
  split at hs
  · rename_i n
    split at hs
    · rename_i hc
      simp only [Option.some.injEq] at hs
      subst hs
      refine symV_ev (new27_run n _) (AllP_cons (decide_eq_false (by omega)) (AllP_cons (decide_eq_false (by omega)) (AllP_cons ?_ AllP_nil)))
      simp only [rep51S, pint, di]
      rw [if_pos (by first | exact ⟨rfl, by omega, by omega⟩ | exact ⟨by omega, by omega⟩)]
    · cases hs
  · cases hs

theorem new11_run (n : Int) (rows : List (List DV)) : symV CR noO 100 11 [pint n] [(site 11 5, .b false), (site 11 8, .b false), (site 11 13, .prim [.one (.sl 1 false rows)])] =
    some ([.agg [di (-1), .sl 1 false rows], pint 0], [], [decide (n < 0) = false, decide (n > 64) = false, rep26S [.one (.sl 1 true [[di (-2)]]), pint n] = some [.one (.sl 1 false rows)]]) := by kernel_rfl
def new11Spec : Spec
  | [.one (.v (.int .i64 n))] => if 0 ≤ n ∧ n ≤ 64 then some [.agg [di (-1), .sl 1 false (List.replicate n.toNat [di (-2)])], pint 0] else none
  | _ => none
theorem new11_sat : Sat CR 11 new11Spec := sat_of_ev (O := noO) hPR (fun _ _ h => h.elim) hm0 fun ps rs hs => by
  unfold new11Spec at hs
  split at hs
  · rename_i n
    split at hs
    · rename_i hc
      simp only [Option.some.injEq] at hs
      subst hs
      refine symV_ev (new11_run n _) (AllP_cons (decide_eq_false (by omega)) (AllP_cons (decide_eq_false (by omega)) (AllP_cons ?_ AllP_nil)))
      simp only [rep26S, pint, di]
      rw [if_pos (by first | exact ⟨rfl, by omega, by omega⟩ | exact ⟨by omega, by omega⟩)]
    · cases hs
  · cases hs

theorem new9_run (n : Int) (rows : List (List DV)) : symV CR noO 100 9 [pint n] [(site 9 5, .b false), (site 9 8, .b false), (site 9 13, .prim [.one (.sl 1 false rows)])] =
    some ([.agg [.sl 1 false rows], pint 0], [], [decide (n < 0) = false, decide (n > 65) = false, rep26S [.one (.sl 1 true [[di (-1)]]), pint n] = some [.one (.sl 1 false rows)]]) := by kernel_rfl
def new9Spec : Spec
  | [.one (.v (.int .i64 n))] => if 0 ≤ n ∧ n ≤ 65 then some [.agg [.sl 1 false (List.replicate n.toNat [di (-1)])], pint 0] else none
  | _ => none
theorem new9_sat : Sat CR 9 new9Spec := sat_of_ev (O := noO) hPR (fun _ _ h => h.elim) hm0 fun ps rs hs => by
  unfold new9Spec at hs
  split at hs
  · rename_i n
    split at hs
    · rename_i hc
      simp only [Option.some.injEq] at hs
      subst hs
      refine symV_ev (new9_run n _) (AllP_cons (decide_eq_false (by omega)) (AllP_cons (decide_eq_false (by omega)) (AllP_cons ?_ AllP_nil)))
      simp only [rep26S, pint, di]
      rw [if_pos (by first | exact ⟨rfl, by omega, by omega⟩ | exact ⟨by omega, by omega⟩)]
    · cases hs
  · cases hs

theorem tbl_ok : slotsL.all (okP C0 8 argI fun n => [tblP n, pint 0]) = true := by kernel_rfl
theorem tblD_ok : slotsL.all (okP C0 12 argI fun n => [tblP n, pint 0]) = true := by kernel_rfl
def tblS : Spec
  | [.one (.v (.int .i64 n))] => if 0 ≤ n ∧ n ≤ 64 then some [tblP n.toNat, pint 0] else none
  | _ => none
theorem tbl_any {g : FuncId} (h : slotsL.all (okP C0 g argI fun n => [tblP n, pint 0]) = true) : Sat C0 g tblS := fun ps rs hs => by
  unfold tblS at hs
  split at hs
  · rename_i n
    split at hs
    · rename_i hc
      simp only [Option.some.injEq] at hs
      subst hs
      obtain ⟨k, rfl⟩ := Int.eq_ofNat_of_zero_le hc.1
      exact sat_runSpec hP0 hm0 500 g _ _ (okP_eq h k (List.mem_range.2 (by omega)))
    · cases hs
  · cases hs
noncomputable def CT : Ctx := addSpec (addSpec C1 27 new27Spec) 28 new28Spec
theorem hPT : PrimOK CT := addSpec_ok (addSpec_ok hP1 (new27_sat.ctx rfl rfl) (by kernel_rfl)) (new28_sat.ctx rfl rfl) (by kernel_rfl)
def queP (n : Nat) (m : Int) : PV := .agg [di (-1), .sl 6 false (List.replicate n node0), di (-1), du 0, du m, di 0, .sl 1 false (List.replicate n [di 0])]
def queQ (n : Nat) (m : Int) : PV := .agg [di (-1), rowD 6 (List.replicate n node0), di (-1), du 0, du m, di 0, .sl 1 false (List.replicate n [di 0])]

theorem resA_two (h : H) (x y : AV) : resA h (.tup [x, y]) = freezeAll h [x, y] := rfl
theorem res_que {h : H} {s k : Nat} {cs : List AV} {f : Bool} {d : DV} {m : Int} {rows : List (List DV)} (hd : freeze0 h (.d d) = some (.one d, h)) (hg : h.get s 0 = some (.cells cs f)) (e : rowsOf h (.hs s 0 0 k 1) = some (1, rows)) :
    ∃ h2, resA h (.tup [.agg [.d (di (-1)), .d d, .d (di (-1)), .d (du 0), vu m, .d (di 0), .hs s 0 0 k 1], vi 0]) = some ([.agg [di (-1), d, di (-1), du 0, du m, di 0, .sl 1 false rows], pint 0], h2) := by
  have f7 : freeze0 h (.hs s 0 0 k 1) = some (.one (.sl 1 false rows), h.set s 0 (.cells cs true)) := by simp only [freeze0, hg, e]
  have g1 : ∀ n : Int, freeze0 h (.d (di n)) = some (.one (di n), h) := fun _ => rfl
  have g2 : ∀ n : Int, freeze0 h (.d (du n)) = some (.one (du n), h) := fun _ => rfl
  have g3 : ∀ n : Int, freeze0 h (vu n) = some (.one (du n), h) := fun _ => rfl
  have fc : freezeCs h [.d (di (-1)), .d d, .d (di (-1)), .d (du 0), vu m, .d (di 0), .hs s 0 0 k 1] = some ([di (-1), d, di (-1), du 0, du m, di 0, .sl 1 false rows], h.set s 0 (.cells cs true)) := by
    simp only [freezeCs, g1, g2, g3, hd, f7]
  have hd2 : cellD (.d d) ≠ none := by
    intro hc
    simp only [freeze0, toPV, hc] at hd
    cases hd
  have f0 : freeze0 h (.agg [.d (di (-1)), .d d, .d (di (-1)), .d (du 0), vu m, .d (di 0), .hs s 0 0 k 1]) = none := by
    obtain ⟨y, hy⟩ := Option.ne_none_iff_exists'.1 hd2
    have e1 : ∀ n : Int, cellD (.d (di n)) = some (di n) := fun _ => rfl
    have e2 : ∀ n : Int, cellD (.d (du n)) = some (du n) := fun _ => rfl
    have e3 : ∀ n : Int, cellD (vu n) = some (du n) := fun _ => rfl
    have e4 : cellD (.hs s 0 0 k 1) = none := rfl
    simp only [freeze0, toPV, allSome, e1, e2, e3, e4, hy]
  have f1 : freeze1 h (.agg [.d (di (-1)), .d d, .d (di (-1)), .d (du 0), vu m, .d (di 0), .hs s 0 0 k 1]) = some (.agg [di (-1), d, di (-1), du 0, du m, di 0, .sl 1 false rows], h.set s 0 (.cells cs true)) := by
    simp only [freeze1, f0, fc]
  have f2 : freeze1 (h.set s 0 (.cells cs true)) (vi 0) = some (pint 0, h.set s 0 (.cells cs true)) := rfl
  refine ⟨h.set s 0 (.cells cs true), ?_⟩
  rw [resA_two]
  simp only [freezeAll, f1, f2]

theorem que10_run (n m : Int) (k : Nat) (rows : List (List DV)) : sym CT noO 100 (.call 10 [vi n, vu m] {}) [(site 10 10, .prim [.agg [di (-1), .sl 6 false rows], pint 0]), (site 10 20, .mks k)] =
    some (.val (.tup [.agg [.d (di (-1)), .d (.sl 6 false rows), .d (di (-1)), .d (du 0), vu m, .d (di 0), .hs (site 10 20) 0 0 k 1], vi 0])
      { objs := [(site 10 4, 1, [.cells [.d (di (-1)), .d (.sl 6 false rows), .d (di (-1)), .d (du 0), vu m, .d (di 0), .hs (site 10 20) 0 0 k 1] false]), (site 10 6, 1, [.cells [.d (di (-1)), .d (.sl 6 false rows)] false]), (site 10 20, 1, [.cells ((List.replicate k [.d (di 0)]).flatten) false])] }, [],
      [new27Spec [pint n] = some [.agg [di (-1), .sl 6 false rows], pint 0], n = (k : Int) ∧ n = (k : Int) ∧ k * 8 ≤ 2 ^ 40 ∧ k ≤ 2 ^ 40 ∧ 0 < 1 ∧ 1 = 1]) := by kernel_rfl
theorem que10_res (m : Int) (k : Nat) (rows : List (List DV)) : ∃ h2, resA { objs := [(site 10 4, 1, [.cells [.d (di (-1)), .d (.sl 6 false rows), .d (di (-1)), .d (du 0), vu m, .d (di 0), .hs (site 10 20) 0 0 k 1] false]), (site 10 6, 1, [.cells [.d (di (-1)), .d (.sl 6 false rows)] false]), (site 10 20, 1, [.cells ((List.replicate k [.d (di 0)]).flatten) false])] }
    (.tup [.agg [.d (di (-1)), .d (.sl 6 false rows), .d (di (-1)), .d (du 0), vu m, .d (di 0), .hs (site 10 20) 0 0 k 1], vi 0]) = some ([.agg [di (-1), .sl 6 false rows, di (-1), du 0, du m, di 0, .sl 1 false (List.replicate k [di 0])], pint 0], h2) := by
  have hg : H.get { objs := [(site 10 4, 1, [.cells [.d (di (-1)), .d (.sl 6 false rows), .d (di (-1)), .d (du 0), vu m, .d (di 0), .hs (site 10 20) 0 0 k 1] false]), (site 10 6, 1, [.cells [.d (di (-1)), .d (.sl 6 false rows)] false]), (site 10 20, 1, [.cells ((List.replicate k [.d (di 0)]).flatten) false])] } (site 10 20) 0 = some (.cells ((List.replicate k [.d (di 0)]).flatten) false) := by
    simp [H.get, lookS, site]
  have e := rowsOf_hs (n := k) (sz := 1) (rows := List.replicate k [di 0]) (rest := []) (f := false) (hg.trans (by simp [List.map_flatten])) (by simp) (fun r h => by rw [(List.mem_replicate.1 h).2]; rfl) (fun r h => by rw [(List.mem_replicate.1 h).2]; exact (plainI 0).2)
  exact res_que rfl hg e

theorem que14_run (n m : Int) (k : Nat) (rows : List (List DV)) : sym CT noO 100 (.call 14 [vi n, vu m] {}) [(site 14 10, .prim [.agg [di (-1), .sl 6 false rows], pint 0]), (site 14 20, .mks k)] =
    some (.val (.tup [.agg [.d (di (-1)), .d (.sl 6 false rows), .d (di (-1)), .d (du 0), vu m, .d (di 0), .hs (site 14 20) 0 0 k 1], vi 0])
      { objs := [(site 14 4, 1, [.cells [.d (di (-1)), .d (.sl 6 false rows), .d (di (-1)), .d (du 0), vu m, .d (di 0), .hs (site 14 20) 0 0 k 1] false]), (site 14 6, 1, [.cells [.d (di (-1)), .d (.sl 6 false rows)] false]), (site 14 20, 1, [.cells ((List.replicate k [.d (di 0)]).flatten) false])] }, [],
      [new28Spec [pint n] = some [.agg [di (-1), .sl 6 false rows], pint 0], n = (k : Int) ∧ n = (k : Int) ∧ k * 8 ≤ 2 ^ 40 ∧ k ≤ 2 ^ 40 ∧ 0 < 1 ∧ 1 = 1]) := by kernel_rfl
theorem que14_res (m : Int) (k : Nat) (rows : List (List DV)) : ∃ h2, resA { objs := [(site 14 4, 1, [.cells [.d (di (-1)), .d (.sl 6 false rows), .d (di (-1)), .d (du 0), vu m, .d (di 0), .hs (site 14 20) 0 0 k 1] false]), (site 14 6, 1, [.cells [.d (di (-1)), .d (.sl 6 false rows)] false]), (site 14 20, 1, [.cells ((List.replicate k [.d (di 0)]).flatten) false])] }
    (.tup [.agg [.d (di (-1)), .d (.sl 6 false rows), .d (di (-1)), .d (du 0), vu m, .d (di 0), .hs (site 14 20) 0 0 k 1], vi 0]) = some ([.agg [di (-1), .sl 6 false rows, di (-1), du 0, du m, di 0, .sl 1 false (List.replicate k [di 0])], pint 0], h2) := by
  have hg : H.get { objs := [(site 14 4, 1, [.cells [.d (di (-1)), .d (.sl 6 false rows), .d (di (-1)), .d (du 0), vu m, .d (di 0), .hs (site 14 20) 0 0 k 1] false]), (site 14 6, 1, [.cells [.d (di (-1)), .d (.sl 6 false rows)] false]), (site 14 20, 1, [.cells ((List.replicate k [.d (di 0)]).flatten) false])] } (site 14 20) 0 = some (.cells ((List.replicate k [.d (di 0)]).flatten) false) := by
    simp [H.get, lookS, site]
  have e := rowsOf_hs (n := k) (sz := 1) (rows := List.replicate k [di 0]) (rest := []) (f := false) (hg.trans (by simp [List.map_flatten])) (by simp) (fun r h => by rw [(List.mem_replicate.1 h).2]; rfl) (fun r h => by rw [(List.mem_replicate.1 h).2]; exact (plainI 0).2)
  exact res_que rfl hg e

theorem que14n_run (n m : Int) (k : Nat) : sym CT noO 100 (.call 14 [vi n, vu m] {}) [(site 14 10, .prim [.agg [di (-1), dnil], pint 0]), (site 14 20, .mks k)] =
    some (.val (.tup [.agg [.d (di (-1)), .d (dnil), .d (di (-1)), .d (du 0), vu m, .d (di 0), .hs (site 14 20) 0 0 k 1], vi 0])
      { objs := [(site 14 4, 1, [.cells [.d (di (-1)), .d (dnil), .d (di (-1)), .d (du 0), vu m, .d (di 0), .hs (site 14 20) 0 0 k 1] false]), (site 14 6, 1, [.cells [.d (di (-1)), .d (dnil)] false]), (site 14 20, 1, [.cells ((List.replicate k [.d (di 0)]).flatten) false])] }, [],
      [new28Spec [pint n] = some [.agg [di (-1), dnil], pint 0], n = (k : Int) ∧ n = (k : Int) ∧ k * 8 ≤ 2 ^ 40 ∧ k ≤ 2 ^ 40 ∧ 0 < 1 ∧ 1 = 1]) := by kernel_rfl
theorem que14n_res (m : Int) (k : Nat) : ∃ h2, resA { objs := [(site 14 4, 1, [.cells [.d (di (-1)), .d (dnil), .d (di (-1)), .d (du 0), vu m, .d (di 0), .hs (site 14 20) 0 0 k 1] false]), (site 14 6, 1, [.cells [.d (di (-1)), .d (dnil)] false]), (site 14 20, 1, [.cells ((List.replicate k [.d (di 0)]).flatten) false])] }
    (.tup [.agg [.d (di (-1)), .d (dnil), .d (di (-1)), .d (du 0), vu m, .d (di 0), .hs (site 14 20) 0 0 k 1], vi 0]) = some ([.agg [di (-1), dnil, di (-1), du 0, du m, di 0, .sl 1 false (List.replicate k [di 0])], pint 0], h2) := by
  have hg : H.get { objs := [(site 14 4, 1, [.cells [.d (di (-1)), .d (dnil), .d (di (-1)), .d (du 0), vu m, .d (di 0), .hs (site 14 20) 0 0 k 1] false]), (site 14 6, 1, [.cells [.d (di (-1)), .d (dnil)] false]), (site 14 20, 1, [.cells ((List.replicate k [.d (di 0)]).flatten) false])] } (site 14 20) 0 = some (.cells ((List.replicate k [.d (di 0)]).flatten) false) := by
    simp [H.get, lookS, site]
  have e := rowsOf_hs (n := k) (sz := 1) (rows := List.replicate k [di 0]) (rest := []) (f := false) (hg.trans (by simp [List.map_flatten])) (by simp) (fun r h => by rw [(List.mem_replicate.1 h).2]; rfl) (fun r h => by rw [(List.mem_replicate.1 h).2]; exact (plainI 0).2)
  exact res_que rfl hg e

def que10Spec : Spec
  | [.one (.v (.int .i64 n)), .one (.v (.int .u64 m))] => if 0 ≤ n ∧ n ≤ 64 then some [queP n.toNat m, pint 0] else none
  | _ => none
def que14Spec : Spec
  | [.one (.v (.int .i64 n)), .one (.v (.int .u64 m))] => if 0 ≤ n ∧ n ≤ 64 then some [queQ n.toNat m, pint 0] else none
  | _ => none
theorem mks_ok {k by_ : Nat} (h : k ≤ 64) (hb : by_ ≤ 1024) : k * by_ ≤ 2 ^ 40 ∧ k ≤ 2 ^ 40 := by
  have h1 : k * by_ ≤ 64 * 1024 := Nat.mul_le_mul h hb
  exact ⟨Nat.le_trans h1 (of_decide_eq_true rfl), Nat.le_trans h (of_decide_eq_true rfl)⟩
theorem que10_sat : Sat CT 10 que10Spec := sat_of_ev (O := noO) hPT (fun _ _ h => h.elim) hm0 fun ps rs hs => by
  unfold que10Spec at hs
  split at hs
  · rename_i n m
    split at hs
    · rename_i hc
      simp only [Option.some.injEq] at hs
      subst hs
      obtain ⟨k, rfl⟩ := Int.eq_ofNat_of_zero_le hc.1
      simp only [Int.toNat_natCast]
      obtain ⟨h2, e⟩ := que10_res m k (List.replicate k node0)
      have hk : k ≤ 64 := by omega
      refine ⟨_, _, h2, sym_ev _ _ _ _ _ _ (que10_run (k : Int) m k (List.replicate k node0)) (AllP_cons ?_ (AllP_cons ⟨rfl, rfl, (mks_ok hk (by decide)).1, (mks_ok (by_ := 8) hk (by decide)).2, by decide, rfl⟩ AllP_nil)), e⟩
      simp only [new27Spec, pint]
      rw [if_pos hc]
      simp
    · cases hs
  · cases hs
theorem que14_sat : Sat CT 14 que14Spec := sat_of_ev (O := noO) hPT (fun _ _ h => h.elim) hm0 fun ps rs hs => by
  unfold que14Spec at hs
  split at hs
  · rename_i n m
    split at hs
    · rename_i hc
      simp only [Option.some.injEq] at hs
      subst hs
      obtain ⟨k, rfl⟩ := Int.eq_ofNat_of_zero_le hc.1
      simp only [Int.toNat_natCast]
      have hk : k ≤ 64 := by omega
      cases k with
      | zero =>
        obtain ⟨h2, e⟩ := que14n_res m 0
        exact ⟨_, _, h2, sym_ev _ _ _ _ _ _ (que14n_run 0 m 0) (AllP_cons rfl (AllP_cons ⟨rfl, rfl, by decide, by decide, by decide, rfl⟩ AllP_nil)), e⟩
      | succ k =>
        obtain ⟨h2, e⟩ := que14_res m (k + 1) (List.replicate (k + 1) node0)
        refine ⟨_, _, h2, sym_ev _ _ _ _ _ _ (que14_run ((k + 1 : Nat) : Int) m (k + 1) (List.replicate (k + 1) node0)) (AllP_cons ?_ (AllP_cons ⟨rfl, rfl, (mks_ok hk (by decide)).1, (mks_ok (by_ := 8) hk (by decide)).2, by decide, rfl⟩ AllP_nil)), e⟩
        simp only [new28Spec, pint]
        rw [if_pos hc]
        simp [rowD, List.replicate_succ]
    · cases hs
  · cases hs
end Go.Ev

namespace Go.Ev
open Go Go.RowKit Go.Proofs
noncomputable def CN : Ctx := addSpec (addSpec (addSpec (addSpec (addSpec (addSpec (addSpec (addSpec C1 8 tblS) 12 tblS) 9 new9Spec) 13 new13Spec) 10 que10Spec) 14 que14Spec) 11 new11Spec) 15 new15Spec
theorem hPN : PrimOK CN := addSpec_ok (addSpec_ok (addSpec_ok (addSpec_ok (addSpec_ok (addSpec_ok (addSpec_ok (addSpec_ok hP1 ((tbl_any tbl_ok).ctx rfl rfl) (by kernel_rfl)) ((tbl_any tblD_ok).ctx rfl rfl) (by kernel_rfl)) (new9_sat.ctx rfl rfl) (by kernel_rfl)) (new13_sat.ctx rfl rfl) (by kernel_rfl)) (que10_sat.ctx rfl rfl) (by kernel_rfl)) (que14_sat.ctx rfl rfl) (by kernel_rfl)) (new11_sat.ctx rfl rfl) (by kernel_rfl)) (new15_sat.ctx rfl rfl) (by kernel_rfl)
def zeroW : List AV := [.d dnil, .d dnil, .d dnil, .d dnil, .d dnil, .d dnil]
def qrow (m : Int) (ns : DV) (wg : List (List DV)) : List DV := [di (-1), ns, di (-1), du 0, du m, di 0, .sl 1 false wg]
def lrow (nx : DV) : List DV := [di (-1), nx]
theorem avFree_d (L : List Nat) : ∀ l : List DV, avFreeL L (l.map .d) = true
  | [] => rfl
  | a :: l => by simp only [List.map_cons, avFreeL, avFree, Bool.true_and]; exact avFree_d L l
theorem avFree_rep (L : List Nat) (k : Nat) : avFreeL L (List.replicate k [AV.d dnil]).flatten = true := by
  have : (List.replicate k [AV.d dnil]).flatten = ((List.replicate k [dnil]).flatten).map .d := by simp [List.map_flatten]
  rw [this]; exact avFree_d _ _
theorem res_world {h : H} {s k g1 g2 s1 s2 : Nat} {cs : List AV} {f : Bool} {rows ws ts ls rq rl : List (List DV)} (hg : h.get s 0 = some (.cells cs f)) (e : rowsOf h (.hs s 0 0 k 1) = some (1, rows)) :
    ∃ h2, resA h (.tup [.agg [.d (.sl 1 false ws), .d (.sl 3 false ts), .st 7 rq s1 g1, .st 2 rl s2 g2, .hs s 0 0 k 1, .d (.sl 1 false ls)], vi 0]) = some ([.agg [.sl 1 false ws, .sl 3 false ts, .sl 7 false rq, .sl 2 false rl, .sl 1 false rows, .sl 1 false ls], pint 0], h2) := by
  have f7 : freeze0 h (.hs s 0 0 k 1) = some (.one (.sl 1 false rows), h.set s 0 (.cells cs true)) := by simp only [freeze0, hg, e]
  have g1' : ∀ (h : H) (sz : Nat) (r : List (List DV)), freeze0 h (.d (.sl sz false r)) = some (.one (.sl sz false r), h) := fun _ _ _ => rfl
  have g2' : ∀ (h : H) (sz : Nat) (r : List (List DV)) (s g : Nat), freeze0 h (.st sz r s g) = some (.one (.sl sz false r), h) := fun _ _ _ _ _ => rfl
  have fc : freezeCs h [.d (.sl 1 false ws), .d (.sl 3 false ts), .st 7 rq s1 g1, .st 2 rl s2 g2, .hs s 0 0 k 1, .d (.sl 1 false ls)] = some ([.sl 1 false ws, .sl 3 false ts, .sl 7 false rq, .sl 2 false rl, .sl 1 false rows, .sl 1 false ls], h.set s 0 (.cells cs true)) := by
    simp only [freezeCs, g1', g2', f7]
  have f0 : freeze0 h (.agg [.d (.sl 1 false ws), .d (.sl 3 false ts), .st 7 rq s1 g1, .st 2 rl s2 g2, .hs s 0 0 k 1, .d (.sl 1 false ls)]) = none := rfl
  have f1 : freeze1 h (.agg [.d (.sl 1 false ws), .d (.sl 3 false ts), .st 7 rq s1 g1, .st 2 rl s2 g2, .hs s 0 0 k 1, .d (.sl 1 false ls)]) = some (.agg [.sl 1 false ws, .sl 3 false ts, .sl 7 false rq, .sl 2 false rl, .sl 1 false rows, .sl 1 false ls], h.set s 0 (.cells cs true)) := by
    simp only [freeze1, f0, fc]
  have f2 : freeze1 (h.set s 0 (.cells cs true)) (vi 0) = some (pint 0, h.set s 0 (.cells cs true)) := rfl
  refine ⟨h.set s 0 (.cells cs true), ?_⟩
  rw [resA_two]
  simp only [freezeAll, f1, f2]
def zeroP : PV := .agg [dnil, dnil, dnil, dnil, dnil, dnil]
def wldP (c s : Nat) (m : Int) : PV := .agg [.sl 1 false (wsR s), .sl 3 false (tsR s), .sl 7 false (List.replicate c (qrow m (.sl 6 false (nsR s)) (wgR s))), .sl 2 false (List.replicate c (lrow (.sl 1 false (nxR s)))), .sl 1 false (List.replicate c [dnil]), .sl 1 false (lkR (c + 1))]
def wldQ (c s : Nat) (m : Int) : PV := .agg [.sl 1 false (wsR s), .sl 3 false (tsR s), .sl 7 false (List.replicate c (qrow m (rowD 6 (nsR s)) (wgR s))), .sl 2 false (List.replicate c (lrow (rowD 1 (nxR s)))), .sl 1 false (List.replicate c [dnil]), .sl 1 false (lkR (c + 1))]

def h4 (t : List (Nat × Nat)) (q l : AV) (ws ts ls : List (List DV)) (so : List AV) (k : Nat) : H := { objs := [(site 4 6, 1, [.cells zeroW false]), (site 4 8, 1, [.cells [.d (.sl 1 false ws), .d (.sl 3 false ts), q, l, .hs (site 4 29) 0 0 k 1, .d (.sl 1 false ls)] false]), (site 4 29, 1, [.cells so false])], toks := t }
def hd4 (c s m i : Int) (h : H) : St := { σ := slots 72 [(1, vi s), (2, vu m), (6, .ptr (site 4 6) 0 0), (8, .ptr (site 4 8) 0 0), (44, vi c), (45, vi i)], h := h }
def out4 (h : H) : St := { σ := slots 72 [(6, .ptr (site 4 6) 0 0), (8, .ptr (site 4 8) 0 0)], h := h }
theorem nw4_exit (c s m i : Int) (t : List (Nat × Nat)) (q l : AV) (ws ts ls : List (List DV)) (so : List AV) (k : Nat) : symM CN noO 100 4 false (loopOf Tryz.prog 4 0) (hd4 c s m i (h4 t q l ws ts ls so k)) [(site 4 46, .b false)] [6, 8] =
    some ((.exit 0, out4 (h4 t q l ws ts ls so k)), [], [decide (i < c) = false]) := by kernel_rfl
theorem nw4_nil (c s m i i' : Int) (ws ts ls ns wg nx : List (List DV)) (so : List AV) (k : Nat) (x : X) (st : St) : sym CN noO 100 (.code 4 false (loopOf Tryz.prog 4 0) (hd4 c s m i (h4 [] (.d dnil) (.d dnil) ws ts ls so k))) [(site 4 46, .b true), (site 4 50, .prim [.agg (qrow m (.sl 6 false ns) wg), pint 0]), (site 4 55, .prim [.agg (lrow (.sl 1 false nx)), pint 0]), (site 4 62, .app false), (site 4 67, .app false), (site 4 70, .int i'), (site 4 8002, .drop [site 4 9, site 4 11] [1, 2, 6, 8, 44, 45]), (site 4 8001, .loop [1, 2, 6, 8, 44, 45] x st)] =
    some (.code x st, [], [decide (i < c) = true, que10Spec [pint s, pu m] = some [.agg (qrow m (.sl 6 false ns) wg), pint 0], new11Spec [pint s] = some [.agg (lrow (.sl 1 false nx)), pint 0], false = false ∧ fitsP 0 1 88, false = false ∧ fitsP 0 1 32, IntKind.wrap .i64 (i + 1) = i', true = true,
      hFree [site 4 9, site 4 11] { objs := [(site 4 6, 1, [.cells zeroW false]), (site 4 8, 1, [.cells [.d (.sl 1 false ws), .d (.sl 3 false ts), .st 7 [qrow m (.sl 6 false ns) wg] (site 4 62) 1, .st 2 [lrow (.sl 1 false nx)] (site 4 67) 1, .hs (site 4 29) 0 0 k 1, .d (.sl 1 false ls)] false]), (site 4 9, 1, [.cells ((qrow m (.sl 6 false ns) wg).map .d) false]), (site 4 11, 1, [.cells ((lrow (.sl 1 false nx)).map .d) false]), (site 4 29, 1, [.cells so false])], toks := [(site 4 62, 1), (site 4 67, 1)] } = true, true = true,
      Ev CN noO (.code 4 false (loopOf Tryz.prog 4 0) (hd4 c s m i' (h4 [(site 4 62, 1), (site 4 67, 1)] (.st 7 [qrow m (.sl 6 false ns) wg] (site 4 62) 1) (.st 2 [lrow (.sl 1 false nx)] (site 4 67) 1) ws ts ls so k))) (.code x st)]) := by kernel_rfl
theorem nw4_st (c s m i i' : Int) (ws ts ls ns wg nx rq rl : List (List DV)) (g1 g2 : Nat) (so : List AV) (k : Nat) (x : X) (st : St) : sym CN noO 100 (.code 4 false (loopOf Tryz.prog 4 0) (hd4 c s m i (h4 [(site 4 62, g1), (site 4 67, g2)] (.st 7 rq (site 4 62) g1) (.st 2 rl (site 4 67) g2) ws ts ls so k))) [(site 4 46, .b true), (site 4 50, .prim [.agg (qrow m (.sl 6 false ns) wg), pint 0]), (site 4 55, .prim [.agg (lrow (.sl 1 false nx)), pint 0]), (site 4 62, .app false), (site 4 67, .app false), (site 4 70, .int i'), (site 4 8002, .drop [site 4 9, site 4 11] [1, 2, 6, 8, 44, 45]), (site 4 8001, .loop [1, 2, 6, 8, 44, 45] x st)] =
    some (.code x st, [], [decide (i < c) = true, que10Spec [pint s, pu m] = some [.agg (qrow m (.sl 6 false ns) wg), pint 0], new11Spec [pint s] = some [.agg (lrow (.sl 1 false nx)), pint 0], false = false ∧ g1 = g1 ∧ fitsP rq.length 1 88, false = false ∧ g2 = g2 ∧ fitsP rl.length 1 32, IntKind.wrap .i64 (i + 1) = i', true = true,
      hFree [site 4 9, site 4 11] { objs := [(site 4 6, 1, [.cells zeroW false]), (site 4 8, 1, [.cells [.d (.sl 1 false ws), .d (.sl 3 false ts), .st 7 (rq ++ [qrow m (.sl 6 false ns) wg]) (site 4 62) (g1 + 1 + 1), .st 2 (rl ++ [lrow (.sl 1 false nx)]) (site 4 67) (g2 + 1 + 1), .hs (site 4 29) 0 0 k 1, .d (.sl 1 false ls)] false]), (site 4 9, 1, [.cells ((qrow m (.sl 6 false ns) wg).map .d) false]), (site 4 11, 1, [.cells ((lrow (.sl 1 false nx)).map .d) false]), (site 4 29, 1, [.cells so false])], toks := [(site 4 62, g1 + 1 + 1), (site 4 67, g2 + 1 + 1)] } = true, true = true,
      Ev CN noO (.code 4 false (loopOf Tryz.prog 4 0) (hd4 c s m i' (h4 [(site 4 62, g1 + 1 + 1), (site 4 67, g2 + 1 + 1)] (.st 7 (rq ++ [qrow m (.sl 6 false ns) wg]) (site 4 62) (g1 + 1 + 1)) (.st 2 (rl ++ [lrow (.sl 1 false nx)]) (site 4 67) (g2 + 1 + 1)) ws ts ls so k))) (.code x st)]) := by kernel_rfl
def tk4 : Nat → List (Nat × Nat)
  | 0 => []
  | i + 1 => [(site 4 62, 2 * i + 1), (site 4 67, 2 * i + 1)]
theorem nw4_loop (c k : Nat) (s m : Int) (ws ts ls ns wg nx : List (List DV)) (hc : c < 2 ^ 30) (h1 : que10Spec [pint s, pu m] = some [.agg (qrow m (.sl 6 false ns) wg), pint 0]) (h2 : new11Spec [pint s] = some [.agg (lrow (.sl 1 false nx)), pint 0]) :
    Ev CN noO (.code 4 false (loopOf Tryz.prog 4 0) (hd4 c s m 0 (h4 [] (.d dnil) (.d dnil) ws ts ls (List.replicate k [AV.d dnil]).flatten k)))
      (.code (.exit 0) (out4 (h4 (tk4 c) (apA 7 (qrow m (.sl 6 false ns) wg) (site 4 62) c) (apA 2 (lrow (.sl 1 false nx)) (site 4 67) c) ws ts ls (List.replicate k [AV.d dnil]).flatten k))) := by
  refine count_loop (fun i => hd4 c s m i (h4 (tk4 i) (apA 7 (qrow m (.sl 6 false ns) wg) (site 4 62) i) (apA 2 (lrow (.sl 1 false nx)) (site 4 67) i) ws ts ls (List.replicate k [AV.d dnil]).flatten k)) c (symM_ev (nw4_exit _ _ _ _ _ _ _ _ _ _ _ _) (AllP_cons (decide_eq_false (by omega)) AllP_nil)) (fun i hi ih => ?_) c 0 (by omega)
  have hfr := avFree_rep [site 4 9, site 4 11] k
  cases i with
  | zero =>
    refine sym_ev _ _ _ _ _ _ (nw4_nil _ _ _ _ ((0 + 1 : Nat) : Int) _ _ _ _ _ _ _ _ _ _) (AllP_cons (decide_eq_true (by omega)) (AllP_cons h1 (AllP_cons h2 (AllP_cons ⟨rfl, fits_small (by decide) (by decide)⟩ (AllP_cons ⟨rfl, fits_small (by decide) (by decide)⟩ (AllP_cons (wrap_succ (i := 0) (by decide)) (AllP_cons rfl (AllP_cons ?_ (AllP_cons rfl (AllP_cons ih AllP_nil))))))))))
    simp [hFree, objFree, avFreeL, avFree, zeroW, site, lrow, qrow, di, du]
    simpa [site] using hfr
  | succ i =>
    refine sym_ev _ _ _ _ _ _ (nw4_st _ _ _ _ ((i + 1 + 1 : Nat) : Int) _ _ _ _ _ _ _ _ _ _ _ _ _ _) (AllP_cons (decide_eq_true (by omega)) (AllP_cons h1 (AllP_cons h2 (AllP_cons ⟨rfl, rfl, fits_small (by simp; omega) (by decide)⟩ (AllP_cons ⟨rfl, rfl, fits_small (by simp; omega) (by decide)⟩ (AllP_cons (wrap_succ (by omega)) (AllP_cons rfl (AllP_cons ?_ (AllP_cons rfl (AllP_cons ?_ AllP_nil))))))))))
    · simp [hFree, objFree, avFreeL, avFree, zeroW, site, lrow, qrow, di, du]
      simpa [site] using hfr
    · rw [rep_snoc, rep_snoc]
      exact ih
theorem nw4_call (c s m c1 : Int) (k : Nat) (ws ts ls rq rl : List (List DV)) (g1 g2 : Nat) (t : List (Nat × Nat)) (so : List AV) : sym CN noO 100 (.call 4 [vi c, vi s, vu m] {}) [(site 4 14, .b false), (site 4 17, .b false), (site 4 21, .b false), (site 4 25, .b false), (site 4 29, .mks k), (site 4 33, .prim [.agg [.sl 1 false ws, .sl 3 false ts], pint 0]), (site 4 39, .int c1), (site 4 40, .prim [.agg [.sl 1 false ls], pint 0]), (site 4 8001, .loop [1, 2, 6, 8, 44, 45] (.exit 0) (out4 (h4 t (.st 7 rq (site 4 62) g1) (.st 2 rl (site 4 67) g2) ws ts ls so k)))] =
    some (.val (.tup [.agg [.d (.sl 1 false ws), .d (.sl 3 false ts), .st 7 rq (site 4 62) g1, .st 2 rl (site 4 67) g2, .hs (site 4 29) 0 0 k 1, .d (.sl 1 false ls)], vi 0])
      ((h4 t (.st 7 rq (site 4 62) g1) (.st 2 rl (site 4 67) g2) ws ts ls so k).set (site 4 6) 0 (.cells [.d (.sl 1 false ws), .d (.sl 3 false ts), .st 7 rq (site 4 62) g1, .st 2 rl (site 4 67) g2, .hs (site 4 29) 0 0 k 1, .d (.sl 1 false ls)] false)), [],
      [decide (c < 1) = false, decide (c > 64) = false, decide (s < 0) = false, decide (s > 64) = false, c = (k : Int) ∧ c = (k : Int) ∧ k * 24 ≤ 2 ^ 40 ∧ k ≤ 2 ^ 40 ∧ 0 < 1 ∧ 1 = 1, tblS [pint s] = some [.agg [.sl 1 false ws, .sl 3 false ts], pint 0], IntKind.wrap .i64 (c + 1) = c1, new9Spec [pint c1] = some [.agg [.sl 1 false ls], pint 0],
      Ev CN noO (.code 4 false (loopOf Tryz.prog 4 0) (hd4 c s m 0 (h4 [] (.d dnil) (.d dnil) ws ts ls (List.replicate k [AV.d dnil]).flatten k))) (.code (.exit 0) (out4 (h4 t (.st 7 rq (site 4 62) g1) (.st 2 rl (site 4 67) g2) ws ts ls so k)))]) := by kernel_rfl

def h5 (t : List (Nat × Nat)) (q l : AV) (ws ts ls : List (List DV)) (so : List AV) (k : Nat) : H := { objs := [(site 5 6, 1, [.cells zeroW false]), (site 5 8, 1, [.cells [.d (.sl 1 false ws), .d (.sl 3 false ts)] false]), (site 5 10, 1, [.cells [.d (.sl 1 false ls)] false]), (site 5 12, 1, [.cells [.d (.sl 1 false ws), .d (.sl 3 false ts), q, l, .hs (site 5 46) 0 0 k 1, .d (.sl 1 false ls)] false]), (site 5 46, 1, [.cells so false])], toks := t }
def hd5 (c s m i : Int) (h : H) : St := { σ := slots 78 [(0, vi c), (1, vi s), (2, vu m), (6, .ptr (site 5 6) 0 0), (12, .ptr (site 5 12) 0 0), (13, vi i)], h := h }
def out5 (h : H) : St := { σ := slots 78 [(6, .ptr (site 5 6) 0 0), (12, .ptr (site 5 12) 0 0)], h := h }
theorem nw5_exit (c s m i : Int) (t : List (Nat × Nat)) (q l : AV) (ws ts ls : List (List DV)) (so : List AV) (k : Nat) : symM CN noO 100 5 false (loopOf Tryz.prog 5 0) (hd5 c s m i (h5 t q l ws ts ls so k)) [(site 5 51, .b false)] [6, 12] =
    some ((.exit 0, out5 (h5 t q l ws ts ls so k)), [], [decide (i < c) = false]) := by kernel_rfl
theorem nw5_nil (c s m i i' : Int) (ws ts ls ns wg nx : List (List DV)) (so : List AV) (k : Nat) (x : X) (st : St) : sym CN noO 100 (.code 5 false (loopOf Tryz.prog 5 0) (hd5 c s m i (h5 [] (.d dnil) (.d dnil) ws ts ls so k))) [(site 5 51, .b true), (site 5 57, .prim [.agg (qrow m (.sl 6 false ns) wg), pint 0]), (site 5 62, .prim [.agg (lrow (.sl 1 false nx)), pint 0]), (site 5 69, .app false), (site 5 75, .app false), (site 5 53, .int i'), (site 5 8002, .drop [site 5 14, site 5 16] [0, 1, 2, 6, 12, 13]), (site 5 8001, .loop [0, 1, 2, 6, 12, 13] x st)] =
    some (.code x st, [], [decide (i < c) = true, que14Spec [pint s, pu m] = some [.agg (qrow m (.sl 6 false ns) wg), pint 0], new15Spec [pint s] = some [.agg (lrow (.sl 1 false nx)), pint 0], false = false ∧ fitsP 0 1 88, false = false ∧ fitsP 0 1 32, IntKind.wrap .i64 (i + 1) = i', true = true,
      hFree [site 5 14, site 5 16] { objs := [(site 5 6, 1, [.cells zeroW false]), (site 5 8, 1, [.cells [.d (.sl 1 false ws), .d (.sl 3 false ts)] false]), (site 5 10, 1, [.cells [.d (.sl 1 false ls)] false]), (site 5 12, 1, [.cells [.d (.sl 1 false ws), .d (.sl 3 false ts), .st 7 [qrow m (.sl 6 false ns) wg] (site 5 69) 1, .st 2 [lrow (.sl 1 false nx)] (site 5 75) 1, .hs (site 5 46) 0 0 k 1, .d (.sl 1 false ls)] false]), (site 5 14, 1, [.cells ((qrow m (.sl 6 false ns) wg).map .d) false]), (site 5 16, 1, [.cells ((lrow (.sl 1 false nx)).map .d) false]), (site 5 46, 1, [.cells so false])], toks := [(site 5 69, 1), (site 5 75, 1)] } = true, true = true,
      Ev CN noO (.code 5 false (loopOf Tryz.prog 5 0) (hd5 c s m i' (h5 [(site 5 69, 1), (site 5 75, 1)] (.st 7 [qrow m (.sl 6 false ns) wg] (site 5 69) 1) (.st 2 [lrow (.sl 1 false nx)] (site 5 75) 1) ws ts ls so k))) (.code x st)]) := by kernel_rfl
theorem nw5_st (c s m i i' : Int) (ws ts ls ns wg nx rq rl : List (List DV)) (g1 g2 : Nat) (so : List AV) (k : Nat) (x : X) (st : St) : sym CN noO 100 (.code 5 false (loopOf Tryz.prog 5 0) (hd5 c s m i (h5 [(site 5 69, g1), (site 5 75, g2)] (.st 7 rq (site 5 69) g1) (.st 2 rl (site 5 75) g2) ws ts ls so k))) [(site 5 51, .b true), (site 5 57, .prim [.agg (qrow m (.sl 6 false ns) wg), pint 0]), (site 5 62, .prim [.agg (lrow (.sl 1 false nx)), pint 0]), (site 5 69, .app false), (site 5 75, .app false), (site 5 53, .int i'), (site 5 8002, .drop [site 5 14, site 5 16] [0, 1, 2, 6, 12, 13]), (site 5 8001, .loop [0, 1, 2, 6, 12, 13] x st)] =
    some (.code x st, [], [decide (i < c) = true, que14Spec [pint s, pu m] = some [.agg (qrow m (.sl 6 false ns) wg), pint 0], new15Spec [pint s] = some [.agg (lrow (.sl 1 false nx)), pint 0], false = false ∧ g1 = g1 ∧ fitsP rq.length 1 88, false = false ∧ g2 = g2 ∧ fitsP rl.length 1 32, IntKind.wrap .i64 (i + 1) = i', true = true,
      hFree [site 5 14, site 5 16] { objs := [(site 5 6, 1, [.cells zeroW false]), (site 5 8, 1, [.cells [.d (.sl 1 false ws), .d (.sl 3 false ts)] false]), (site 5 10, 1, [.cells [.d (.sl 1 false ls)] false]), (site 5 12, 1, [.cells [.d (.sl 1 false ws), .d (.sl 3 false ts), .st 7 (rq ++ [qrow m (.sl 6 false ns) wg]) (site 5 69) (g1 + 1 + 1), .st 2 (rl ++ [lrow (.sl 1 false nx)]) (site 5 75) (g2 + 1 + 1), .hs (site 5 46) 0 0 k 1, .d (.sl 1 false ls)] false]), (site 5 14, 1, [.cells ((qrow m (.sl 6 false ns) wg).map .d) false]), (site 5 16, 1, [.cells ((lrow (.sl 1 false nx)).map .d) false]), (site 5 46, 1, [.cells so false])], toks := [(site 5 69, g1 + 1 + 1), (site 5 75, g2 + 1 + 1)] } = true, true = true,
      Ev CN noO (.code 5 false (loopOf Tryz.prog 5 0) (hd5 c s m i' (h5 [(site 5 69, g1 + 1 + 1), (site 5 75, g2 + 1 + 1)] (.st 7 (rq ++ [qrow m (.sl 6 false ns) wg]) (site 5 69) (g1 + 1 + 1)) (.st 2 (rl ++ [lrow (.sl 1 false nx)]) (site 5 75) (g2 + 1 + 1)) ws ts ls so k))) (.code x st)]) := by kernel_rfl
def tk5 : Nat → List (Nat × Nat)
  | 0 => []
  | i + 1 => [(site 5 69, 2 * i + 1), (site 5 75, 2 * i + 1)]
theorem nw5_loop (c k : Nat) (s m : Int) (ws ts ls ns wg nx : List (List DV)) (hc : c < 2 ^ 30) (h1 : que14Spec [pint s, pu m] = some [.agg (qrow m (.sl 6 false ns) wg), pint 0]) (h2 : new15Spec [pint s] = some [.agg (lrow (.sl 1 false nx)), pint 0]) :
    Ev CN noO (.code 5 false (loopOf Tryz.prog 5 0) (hd5 c s m 0 (h5 [] (.d dnil) (.d dnil) ws ts ls (List.replicate k [AV.d dnil]).flatten k)))
      (.code (.exit 0) (out5 (h5 (tk5 c) (apA 7 (qrow m (.sl 6 false ns) wg) (site 5 69) c) (apA 2 (lrow (.sl 1 false nx)) (site 5 75) c) ws ts ls (List.replicate k [AV.d dnil]).flatten k))) := by
  refine count_loop (fun i => hd5 c s m i (h5 (tk5 i) (apA 7 (qrow m (.sl 6 false ns) wg) (site 5 69) i) (apA 2 (lrow (.sl 1 false nx)) (site 5 75) i) ws ts ls (List.replicate k [AV.d dnil]).flatten k)) c (symM_ev (nw5_exit _ _ _ _ _ _ _ _ _ _ _ _) (AllP_cons (decide_eq_false (by omega)) AllP_nil)) (fun i hi ih => ?_) c 0 (by omega)
  have hfr := avFree_rep [site 5 14, site 5 16] k
  cases i with
  | zero =>
    refine sym_ev _ _ _ _ _ _ (nw5_nil _ _ _ _ ((0 + 1 : Nat) : Int) _ _ _ _ _ _ _ _ _ _) (AllP_cons (decide_eq_true (by omega)) (AllP_cons h1 (AllP_cons h2 (AllP_cons ⟨rfl, fits_small (by decide) (by decide)⟩ (AllP_cons ⟨rfl, fits_small (by decide) (by decide)⟩ (AllP_cons (wrap_succ (i := 0) (by decide)) (AllP_cons rfl (AllP_cons ?_ (AllP_cons rfl (AllP_cons ih AllP_nil))))))))))
    simp [hFree, objFree, avFreeL, avFree, zeroW, site, lrow, qrow, di, du]
    simpa [site] using hfr
  | succ i =>
    refine sym_ev _ _ _ _ _ _ (nw5_st _ _ _ _ ((i + 1 + 1 : Nat) : Int) _ _ _ _ _ _ _ _ _ _ _ _ _ _) (AllP_cons (decide_eq_true (by omega)) (AllP_cons h1 (AllP_cons h2 (AllP_cons ⟨rfl, rfl, fits_small (by simp; omega) (by decide)⟩ (AllP_cons ⟨rfl, rfl, fits_small (by simp; omega) (by decide)⟩ (AllP_cons (wrap_succ (by omega)) (AllP_cons rfl (AllP_cons ?_ (AllP_cons rfl (AllP_cons ?_ AllP_nil))))))))))
    · simp [hFree, objFree, avFreeL, avFree, zeroW, site, lrow, qrow, di, du]
      simpa [site] using hfr
    · rw [rep_snoc, rep_snoc]
      exact ih
theorem nw5_call (c s m c1 : Int) (k : Nat) (ws ts ls rq rl : List (List DV)) (g1 g2 : Nat) (t : List (Nat × Nat)) (so : List AV) : sym CN noO 100 (.call 5 [vi c, vi s, vu m] {}) [(site 5 19, .b false), (site 5 22, .b false), (site 5 26, .b false), (site 5 30, .b false), (site 5 35, .prim [.agg [.sl 1 false ws, .sl 3 false ts], pint 0]), (site 5 40, .int c1), (site 5 41, .prim [.agg [.sl 1 false ls], pint 0]), (site 5 46, .mks k), (site 5 8001, .loop [0, 1, 2, 6, 12, 13] (.exit 0) (out5 (h5 t (.st 7 rq (site 5 69) g1) (.st 2 rl (site 5 75) g2) ws ts ls so k)))] =
    some (.val (.tup [.agg [.d (.sl 1 false ws), .d (.sl 3 false ts), .st 7 rq (site 5 69) g1, .st 2 rl (site 5 75) g2, .hs (site 5 46) 0 0 k 1, .d (.sl 1 false ls)], vi 0])
      ((h5 t (.st 7 rq (site 5 69) g1) (.st 2 rl (site 5 75) g2) ws ts ls so k).set (site 5 6) 0 (.cells [.d (.sl 1 false ws), .d (.sl 3 false ts), .st 7 rq (site 5 69) g1, .st 2 rl (site 5 75) g2, .hs (site 5 46) 0 0 k 1, .d (.sl 1 false ls)] false)), [],
      [decide (c < 1) = false, decide (c > 64) = false, decide (s < 0) = false, decide (s > 64) = false, tblS [pint s] = some [.agg [.sl 1 false ws, .sl 3 false ts], pint 0], IntKind.wrap .i64 (c + 1) = c1, new13Spec [pint c1] = some [.agg [.sl 1 false ls], pint 0], c = (k : Int) ∧ c = (k : Int) ∧ k * 24 ≤ 2 ^ 40 ∧ k ≤ 2 ^ 40 ∧ 0 < 1 ∧ 1 = 1,
      Ev CN noO (.code 5 false (loopOf Tryz.prog 5 0) (hd5 c s m 0 (h5 [] (.d dnil) (.d dnil) ws ts ls (List.replicate k [AV.d dnil]).flatten k))) (.code (.exit 0) (out5 (h5 t (.st 7 rq (site 5 69) g1) (.st 2 rl (site 5 75) g2) ws ts ls so k)))]) := by kernel_rfl

def h5n (t : List (Nat × Nat)) (q l : AV) (ws ts ls : List (List DV)) (so : List AV) (k : Nat) : H := { objs := [(site 5 6, 1, [.cells zeroW false]), (site 5 8, 1, [.cells [.d (.sl 1 false ws), .d (.sl 3 false ts)] false]), (site 5 10, 1, [.cells [.d (.sl 1 false ls)] false]), (site 5 12, 1, [.cells [.d (.sl 1 false ws), .d (.sl 3 false ts), q, l, .hs (site 5 46) 0 0 k 1, .d (.sl 1 false ls)] false]), (site 5 46, 1, [.cells so false])], toks := t }
def hd5n (c s m i : Int) (h : H) : St := { σ := slots 78 [(0, vi c), (1, vi s), (2, vu m), (6, .ptr (site 5 6) 0 0), (12, .ptr (site 5 12) 0 0), (13, vi i)], h := h }
def out5n (h : H) : St := { σ := slots 78 [(6, .ptr (site 5 6) 0 0), (12, .ptr (site 5 12) 0 0)], h := h }
theorem nw5n_exit (c s m i : Int) (t : List (Nat × Nat)) (q l : AV) (ws ts ls : List (List DV)) (so : List AV) (k : Nat) : symM CN noO 100 5 false (loopOf Tryz.prog 5 0) (hd5n c s m i (h5n t q l ws ts ls so k)) [(site 5 51, .b false)] [6, 12] =
    some ((.exit 0, out5n (h5n t q l ws ts ls so k)), [], [decide (i < c) = false]) := by kernel_rfl
theorem nw5n_nil (c s m i i' : Int) (ws ts ls  wg : List (List DV)) (so : List AV) (k : Nat) (x : X) (st : St) : sym CN noO 100 (.code 5 false (loopOf Tryz.prog 5 0) (hd5n c s m i (h5n [] (.d dnil) (.d dnil) ws ts ls so k))) [(site 5 51, .b true), (site 5 57, .prim [.agg (qrow m (dnil) wg), pint 0]), (site 5 62, .prim [.agg (lrow (dnil)), pint 0]), (site 5 69, .app false), (site 5 75, .app false), (site 5 53, .int i'), (site 5 8002, .drop [site 5 14, site 5 16] [0, 1, 2, 6, 12, 13]), (site 5 8001, .loop [0, 1, 2, 6, 12, 13] x st)] =
    some (.code x st, [], [decide (i < c) = true, que14Spec [pint s, pu m] = some [.agg (qrow m (dnil) wg), pint 0], new15Spec [pint s] = some [.agg (lrow (dnil)), pint 0], false = false ∧ fitsP 0 1 88, false = false ∧ fitsP 0 1 32, IntKind.wrap .i64 (i + 1) = i', true = true,
      hFree [site 5 14, site 5 16] { objs := [(site 5 6, 1, [.cells zeroW false]), (site 5 8, 1, [.cells [.d (.sl 1 false ws), .d (.sl 3 false ts)] false]), (site 5 10, 1, [.cells [.d (.sl 1 false ls)] false]), (site 5 12, 1, [.cells [.d (.sl 1 false ws), .d (.sl 3 false ts), .st 7 [qrow m (dnil) wg] (site 5 69) 1, .st 2 [lrow (dnil)] (site 5 75) 1, .hs (site 5 46) 0 0 k 1, .d (.sl 1 false ls)] false]), (site 5 14, 1, [.cells ((qrow m (dnil) wg).map .d) false]), (site 5 16, 1, [.cells ((lrow (dnil)).map .d) false]), (site 5 46, 1, [.cells so false])], toks := [(site 5 69, 1), (site 5 75, 1)] } = true, true = true,
      Ev CN noO (.code 5 false (loopOf Tryz.prog 5 0) (hd5n c s m i' (h5n [(site 5 69, 1), (site 5 75, 1)] (.st 7 [qrow m (dnil) wg] (site 5 69) 1) (.st 2 [lrow (dnil)] (site 5 75) 1) ws ts ls so k))) (.code x st)]) := by kernel_rfl
theorem nw5n_st (c s m i i' : Int) (ws ts ls  wg rq rl : List (List DV)) (g1 g2 : Nat) (so : List AV) (k : Nat) (x : X) (st : St) : sym CN noO 100 (.code 5 false (loopOf Tryz.prog 5 0) (hd5n c s m i (h5n [(site 5 69, g1), (site 5 75, g2)] (.st 7 rq (site 5 69) g1) (.st 2 rl (site 5 75) g2) ws ts ls so k))) [(site 5 51, .b true), (site 5 57, .prim [.agg (qrow m (dnil) wg), pint 0]), (site 5 62, .prim [.agg (lrow (dnil)), pint 0]), (site 5 69, .app false), (site 5 75, .app false), (site 5 53, .int i'), (site 5 8002, .drop [site 5 14, site 5 16] [0, 1, 2, 6, 12, 13]), (site 5 8001, .loop [0, 1, 2, 6, 12, 13] x st)] =
    some (.code x st, [], [decide (i < c) = true, que14Spec [pint s, pu m] = some [.agg (qrow m (dnil) wg), pint 0], new15Spec [pint s] = some [.agg (lrow (dnil)), pint 0], false = false ∧ g1 = g1 ∧ fitsP rq.length 1 88, false = false ∧ g2 = g2 ∧ fitsP rl.length 1 32, IntKind.wrap .i64 (i + 1) = i', true = true,
      hFree [site 5 14, site 5 16] { objs := [(site 5 6, 1, [.cells zeroW false]), (site 5 8, 1, [.cells [.d (.sl 1 false ws), .d (.sl 3 false ts)] false]), (site 5 10, 1, [.cells [.d (.sl 1 false ls)] false]), (site 5 12, 1, [.cells [.d (.sl 1 false ws), .d (.sl 3 false ts), .st 7 (rq ++ [qrow m (dnil) wg]) (site 5 69) (g1 + 1 + 1), .st 2 (rl ++ [lrow (dnil)]) (site 5 75) (g2 + 1 + 1), .hs (site 5 46) 0 0 k 1, .d (.sl 1 false ls)] false]), (site 5 14, 1, [.cells ((qrow m (dnil) wg).map .d) false]), (site 5 16, 1, [.cells ((lrow (dnil)).map .d) false]), (site 5 46, 1, [.cells so false])], toks := [(site 5 69, g1 + 1 + 1), (site 5 75, g2 + 1 + 1)] } = true, true = true,
      Ev CN noO (.code 5 false (loopOf Tryz.prog 5 0) (hd5n c s m i' (h5n [(site 5 69, g1 + 1 + 1), (site 5 75, g2 + 1 + 1)] (.st 7 (rq ++ [qrow m (dnil) wg]) (site 5 69) (g1 + 1 + 1)) (.st 2 (rl ++ [lrow (dnil)]) (site 5 75) (g2 + 1 + 1)) ws ts ls so k))) (.code x st)]) := by kernel_rfl
def tk5n : Nat → List (Nat × Nat)
  | 0 => []
  | i + 1 => [(site 5 69, 2 * i + 1), (site 5 75, 2 * i + 1)]
theorem nw5n_loop (c k : Nat) (s m : Int) (ws ts ls  wg : List (List DV)) (hc : c < 2 ^ 30) (h1 : que14Spec [pint s, pu m] = some [.agg (qrow m (dnil) wg), pint 0]) (h2 : new15Spec [pint s] = some [.agg (lrow (dnil)), pint 0]) :
    Ev CN noO (.code 5 false (loopOf Tryz.prog 5 0) (hd5n c s m 0 (h5n [] (.d dnil) (.d dnil) ws ts ls (List.replicate k [AV.d dnil]).flatten k)))
      (.code (.exit 0) (out5n (h5n (tk5n c) (apA 7 (qrow m (dnil) wg) (site 5 69) c) (apA 2 (lrow (dnil)) (site 5 75) c) ws ts ls (List.replicate k [AV.d dnil]).flatten k))) := by
  refine count_loop (fun i => hd5n c s m i (h5n (tk5n i) (apA 7 (qrow m (dnil) wg) (site 5 69) i) (apA 2 (lrow (dnil)) (site 5 75) i) ws ts ls (List.replicate k [AV.d dnil]).flatten k)) c (symM_ev (nw5n_exit _ _ _ _ _ _ _ _ _ _ _ _) (AllP_cons (decide_eq_false (by omega)) AllP_nil)) (fun i hi ih => ?_) c 0 (by omega)
  have hfr := avFree_rep [site 5 14, site 5 16] k
  cases i with
  | zero =>
    refine sym_ev _ _ _ _ _ _ (nw5n_nil _ _ _ _ ((0 + 1 : Nat) : Int) _ _ _ _ _ _ _ _) (AllP_cons (decide_eq_true (by omega)) (AllP_cons h1 (AllP_cons h2 (AllP_cons ⟨rfl, fits_small (by decide) (by decide)⟩ (AllP_cons ⟨rfl, fits_small (by decide) (by decide)⟩ (AllP_cons (wrap_succ (i := 0) (by decide)) (AllP_cons rfl (AllP_cons ?_ (AllP_cons rfl (AllP_cons ih AllP_nil))))))))))
    simp [hFree, objFree, avFreeL, avFree, zeroW, site, lrow, qrow, di, du]
    simpa [site] using hfr
  | succ i =>
    refine sym_ev _ _ _ _ _ _ (nw5n_st _ _ _ _ ((i + 1 + 1 : Nat) : Int) _ _ _ _ _ _ _ _ _ _ _ _) (AllP_cons (decide_eq_true (by omega)) (AllP_cons h1 (AllP_cons h2 (AllP_cons ⟨rfl, rfl, fits_small (by simp; omega) (by decide)⟩ (AllP_cons ⟨rfl, rfl, fits_small (by simp; omega) (by decide)⟩ (AllP_cons (wrap_succ (by omega)) (AllP_cons rfl (AllP_cons ?_ (AllP_cons rfl (AllP_cons ?_ AllP_nil))))))))))
    · simp [hFree, objFree, avFreeL, avFree, zeroW, site, lrow, qrow, di, du]
      simpa [site] using hfr
    · rw [rep_snoc, rep_snoc]
      exact ih
theorem nw5n_call (c s m c1 : Int) (k : Nat) (ws ts ls rq rl : List (List DV)) (g1 g2 : Nat) (t : List (Nat × Nat)) (so : List AV) : sym CN noO 100 (.call 5 [vi c, vi s, vu m] {}) [(site 5 19, .b false), (site 5 22, .b false), (site 5 26, .b false), (site 5 30, .b false), (site 5 35, .prim [.agg [.sl 1 false ws, .sl 3 false ts], pint 0]), (site 5 40, .int c1), (site 5 41, .prim [.agg [.sl 1 false ls], pint 0]), (site 5 46, .mks k), (site 5 8001, .loop [0, 1, 2, 6, 12, 13] (.exit 0) (out5n (h5n t (.st 7 rq (site 5 69) g1) (.st 2 rl (site 5 75) g2) ws ts ls so k)))] =
    some (.val (.tup [.agg [.d (.sl 1 false ws), .d (.sl 3 false ts), .st 7 rq (site 5 69) g1, .st 2 rl (site 5 75) g2, .hs (site 5 46) 0 0 k 1, .d (.sl 1 false ls)], vi 0])
      ((h5n t (.st 7 rq (site 5 69) g1) (.st 2 rl (site 5 75) g2) ws ts ls so k).set (site 5 6) 0 (.cells [.d (.sl 1 false ws), .d (.sl 3 false ts), .st 7 rq (site 5 69) g1, .st 2 rl (site 5 75) g2, .hs (site 5 46) 0 0 k 1, .d (.sl 1 false ls)] false)), [],
      [decide (c < 1) = false, decide (c > 64) = false, decide (s < 0) = false, decide (s > 64) = false, tblS [pint s] = some [.agg [.sl 1 false ws, .sl 3 false ts], pint 0], IntKind.wrap .i64 (c + 1) = c1, new13Spec [pint c1] = some [.agg [.sl 1 false ls], pint 0], c = (k : Int) ∧ c = (k : Int) ∧ k * 24 ≤ 2 ^ 40 ∧ k ≤ 2 ^ 40 ∧ 0 < 1 ∧ 1 = 1,
      Ev CN noO (.code 5 false (loopOf Tryz.prog 5 0) (hd5n c s m 0 (h5n [] (.d dnil) (.d dnil) ws ts ls (List.replicate k [AV.d dnil]).flatten k))) (.code (.exit 0) (out5n (h5n t (.st 7 rq (site 5 69) g1) (.st 2 rl (site 5 75) g2) ws ts ls so k)))]) := by kernel_rfl
end Go.Ev

namespace Go.Ev
open Go Go.RowKit Go.Proofs
def newS (W : Nat → Nat → Int → PV) : Spec
  | [.one (.v (.int .i64 c)), .one (.v (.int .i64 s)), .one (.v (.int .u64 m))] => if 1 ≤ c ∧ c ≤ 64 ∧ 0 ≤ s ∧ s ≤ 64 then some [W c.toNat s.toNat m, pint 0] else some [zeroP, pint 1]
  | _ => none
theorem tblS_at {k : Nat} (h : k ≤ 64) : tblS [pint k] = some [.agg [.sl 1 false (wsR k), .sl 3 false (tsR k)], pint 0] := by
  simp only [tblS, pint]
  rw [if_pos ⟨by omega, by omega⟩]
  simp [tblP, pint]
theorem wrap_add {k : Nat} (h : k ≤ 64) : IntKind.wrap .i64 ((k : Int) + 1) = ((k + 1 : Nat) : Int) := wrap_succ (by omega)
theorem new4_e0 (c s m : Int) : symV CN noO 100 4 [pint c, pint s, pu m] [(site 4 14, .b true)] = some ([zeroP, pint 1], [], [decide (c < 1) = true]) := by kernel_rfl
theorem new4_e1 (c s m : Int) : symV CN noO 100 4 [pint c, pint s, pu m] [(site 4 14, .b false), (site 4 17, .b true)] = some ([zeroP, pint 1], [], [decide (c < 1) = false, decide (c > 64) = true]) := by kernel_rfl
theorem new4_e2 (c s m : Int) : symV CN noO 100 4 [pint c, pint s, pu m] [(site 4 14, .b false), (site 4 17, .b false), (site 4 21, .b true)] = some ([zeroP, pint 1], [], [decide (c < 1) = false, decide (c > 64) = false, decide (s < 0) = true]) := by kernel_rfl
theorem new4_e3 (c s m : Int) : symV CN noO 100 4 [pint c, pint s, pu m] [(site 4 14, .b false), (site 4 17, .b false), (site 4 21, .b false), (site 4 25, .b true)] = some ([zeroP, pint 1], [], [decide (c < 1) = false, decide (c > 64) = false, decide (s < 0) = false, decide (s > 64) = true]) := by kernel_rfl
theorem new5_e0 (c s m : Int) : symV CN noO 100 5 [pint c, pint s, pu m] [(site 5 19, .b true)] = some ([zeroP, pint 1], [], [decide (c < 1) = true]) := by kernel_rfl
theorem new5_e1 (c s m : Int) : symV CN noO 100 5 [pint c, pint s, pu m] [(site 5 19, .b false), (site 5 22, .b true)] = some ([zeroP, pint 1], [], [decide (c < 1) = false, decide (c > 64) = true]) := by kernel_rfl
theorem new5_e2 (c s m : Int) : symV CN noO 100 5 [pint c, pint s, pu m] [(site 5 19, .b false), (site 5 22, .b false), (site 5 26, .b true)] = some ([zeroP, pint 1], [], [decide (c < 1) = false, decide (c > 64) = false, decide (s < 0) = true]) := by kernel_rfl
theorem new5_e3 (c s m : Int) : symV CN noO 100 5 [pint c, pint s, pu m] [(site 5 19, .b false), (site 5 22, .b false), (site 5 26, .b false), (site 5 30, .b true)] = some ([zeroP, pint 1], [], [decide (c < 1) = false, decide (c > 64) = false, decide (s < 0) = false, decide (s > 64) = true]) := by kernel_rfl

theorem new4_main (k j : Nat) (m : Int) (hk : k + 1 ≤ 64) (hj : j ≤ 64) : ∃ a h1 h2, Ev CN noO (.call 4 [vi ((k + 1 : Nat) : Int), vi ((j : Nat) : Int), vu m] {}) (.val a h1) ∧
    resA h1 a = some ([.agg [.sl 1 false (wsR (j)), .sl 3 false (tsR (j)), .sl 7 false (List.replicate (k + 1) (qrow m (.sl 6 false (nsR j)) (wgR (j)))), .sl 2 false (List.replicate (k + 1) (lrow (.sl 1 false (nxR j)))), .sl 1 false (List.replicate (k + 1) [dnil]), .sl 1 false (lkR (k + 1 + 1))], pint 0], h2) := by
  have hl : new9Spec [pint ((k + 1 + 1 : Nat) : Int)] = some [.agg [.sl 1 false (lkR (k + 1 + 1))], pint 0] := by
    simp only [new9Spec, pint]
    rw [if_pos ⟨by omega, by omega⟩]
    simp only [Int.toNat_natCast]
    rfl
  have hq : que10Spec [pint ((j : Nat) : Int), pu m] = some [.agg (qrow m (.sl 6 false (nsR j)) (wgR (j))), pint 0] := by
    simp only [que10Spec, pint, pu]
    rw [if_pos ⟨by omega, by omega⟩]
    simp only [Int.toNat_natCast]
    rfl
  have hx : new11Spec [pint ((j : Nat) : Int)] = some [.agg (lrow (.sl 1 false (nxR j))), pint 0] := by
    simp only [new11Spec, pint]
    rw [if_pos ⟨by omega, by omega⟩]
    simp only [Int.toNat_natCast]
    rfl
  have hloop := nw4_loop (k + 1) (k + 1) ((j : Nat) : Int) m (wsR (j)) (tsR (j)) (lkR (k + 1 + 1)) (nsR j) (wgR j) (nxR j) (by omega) hq hx
  have hcall := sym_ev _ _ _ _ _ _ (nw4_call ((k + 1 : Nat) : Int) ((j : Nat) : Int) m ((k + 1 + 1 : Nat) : Int) (k + 1) (wsR (j)) (tsR (j)) (lkR (k + 1 + 1)) (List.replicate (k + 1) (qrow m (.sl 6 false (nsR j)) (wgR (j)))) (List.replicate (k + 1) (lrow (.sl 1 false (nxR j)))) (2 * k + 1) (2 * k + 1) (tk4 (k + 1)) (List.replicate (k + 1) [AV.d dnil]).flatten)
    (AllP_cons (decide_eq_false (by omega)) (AllP_cons (decide_eq_false (by omega)) (AllP_cons (decide_eq_false (by omega)) (AllP_cons (decide_eq_false (by omega)) (AllP_cons ⟨rfl, rfl, (mks_ok hk (by decide)).1, (mks_ok (by_ := 24) hk (by decide)).2, by decide, rfl⟩ (AllP_cons (tblS_at hj) (AllP_cons (wrap_add hk) (AllP_cons hl (AllP_cons hloop AllP_nil)))))))))
  have hg : H.get ((h4 (tk4 (k + 1)) (.st 7 (List.replicate (k + 1) (qrow m (.sl 6 false (nsR j)) (wgR (j)))) (site 4 62) (2 * k + 1)) (.st 2 (List.replicate (k + 1) (lrow (.sl 1 false (nxR j)))) (site 4 67) (2 * k + 1)) (wsR (j)) (tsR (j)) (lkR (k + 1 + 1)) (List.replicate (k + 1) [AV.d dnil]).flatten (k + 1)).set (site 4 6) 0 (.cells [.d (.sl 1 false (wsR (j))), .d (.sl 3 false (tsR (j))), .st 7 (List.replicate (k + 1) (qrow m (.sl 6 false (nsR j)) (wgR (j)))) (site 4 62) (2 * k + 1), .st 2 (List.replicate (k + 1) (lrow (.sl 1 false (nxR j)))) (site 4 67) (2 * k + 1), .hs (site 4 29) 0 0 (k + 1) 1, .d (.sl 1 false (lkR (k + 1 + 1)))] false)) (site 4 29) 0 = some (.cells (List.replicate (k + 1) [AV.d dnil]).flatten false) := by
    simp [h4, H.get, H.set, lookS, putS, site]
  have he := rowsOf_hs (n := k + 1) (sz := 1) (rows := List.replicate (k + 1) [dnil]) (rest := []) (f := false) (hg.trans (by simp [List.map_flatten])) (by simp) (fun r h => by rw [(List.mem_replicate.1 h).2]; rfl) (fun r h => by rw [(List.mem_replicate.1 h).2]; intro y hy; simp at hy; subst hy; rfl)
  obtain ⟨h2, e⟩ := res_world (ws := wsR (j)) (ts := tsR (j)) (ls := lkR (k + 1 + 1)) (rq := List.replicate (k + 1) (qrow m (.sl 6 false (nsR j)) (wgR (j)))) (rl := List.replicate (k + 1) (lrow (.sl 1 false (nxR j)))) (s1 := site 4 62) (s2 := site 4 67) (g1 := 2 * k + 1) (g2 := 2 * k + 1) hg he
  exact ⟨_, _, h2, hcall, e⟩

theorem new5_main (k j : Nat) (m : Int) (hk : k + 1 ≤ 64) (hj : j + 1 ≤ 64) : ∃ a h1 h2, Ev CN noO (.call 5 [vi ((k + 1 : Nat) : Int), vi ((j + 1 : Nat) : Int), vu m] {}) (.val a h1) ∧
    resA h1 a = some ([.agg [.sl 1 false (wsR (j + 1)), .sl 3 false (tsR (j + 1)), .sl 7 false (List.replicate (k + 1) (qrow m (.sl 6 false (nsR (j + 1))) (wgR (j + 1)))), .sl 2 false (List.replicate (k + 1) (lrow (.sl 1 false (nxR (j + 1))))), .sl 1 false (List.replicate (k + 1) [dnil]), .sl 1 false (lkR (k + 1 + 1))], pint 0], h2) := by
  have hl : new13Spec [pint ((k + 1 + 1 : Nat) : Int)] = some [.agg [.sl 1 false (lkR (k + 1 + 1))], pint 0] := by
    simp only [new13Spec, pint]
    rw [if_pos ⟨by omega, by omega⟩]
    simp only [Int.toNat_natCast]
    rfl
  have hq : que14Spec [pint ((j + 1 : Nat) : Int), pu m] = some [.agg (qrow m (.sl 6 false (nsR (j + 1))) (wgR (j + 1))), pint 0] := by
    simp only [que14Spec, pint, pu]
    rw [if_pos ⟨by omega, by omega⟩]
    simp only [Int.toNat_natCast]
    rfl
  have hx : new15Spec [pint ((j + 1 : Nat) : Int)] = some [.agg (lrow (.sl 1 false (nxR (j + 1)))), pint 0] := by
    simp only [new15Spec, pint]
    rw [if_pos ⟨by omega, by omega⟩]
    simp only [Int.toNat_natCast]
    rfl
  have hloop := nw5_loop (k + 1) (k + 1) ((j + 1 : Nat) : Int) m (wsR (j + 1)) (tsR (j + 1)) (lkR (k + 1 + 1)) (nsR (j + 1)) (wgR (j + 1)) (nxR (j + 1)) (by omega) hq hx
  have hcall := sym_ev _ _ _ _ _ _ (nw5_call ((k + 1 : Nat) : Int) ((j + 1 : Nat) : Int) m ((k + 1 + 1 : Nat) : Int) (k + 1) (wsR (j + 1)) (tsR (j + 1)) (lkR (k + 1 + 1)) (List.replicate (k + 1) (qrow m (.sl 6 false (nsR (j + 1))) (wgR (j + 1)))) (List.replicate (k + 1) (lrow (.sl 1 false (nxR (j + 1))))) (2 * k + 1) (2 * k + 1) (tk5 (k + 1)) (List.replicate (k + 1) [AV.d dnil]).flatten)
    (AllP_cons (decide_eq_false (by omega)) (AllP_cons (decide_eq_false (by omega)) (AllP_cons (decide_eq_false (by omega)) (AllP_cons (decide_eq_false (by omega)) (AllP_cons (tblS_at hj) (AllP_cons (wrap_add hk) (AllP_cons hl (AllP_cons ⟨rfl, rfl, (mks_ok hk (by decide)).1, (mks_ok (by_ := 24) hk (by decide)).2, by decide, rfl⟩ (AllP_cons hloop AllP_nil)))))))))
  have hg : H.get ((h5 (tk5 (k + 1)) (.st 7 (List.replicate (k + 1) (qrow m (.sl 6 false (nsR (j + 1))) (wgR (j + 1)))) (site 5 69) (2 * k + 1)) (.st 2 (List.replicate (k + 1) (lrow (.sl 1 false (nxR (j + 1))))) (site 5 75) (2 * k + 1)) (wsR (j + 1)) (tsR (j + 1)) (lkR (k + 1 + 1)) (List.replicate (k + 1) [AV.d dnil]).flatten (k + 1)).set (site 5 6) 0 (.cells [.d (.sl 1 false (wsR (j + 1))), .d (.sl 3 false (tsR (j + 1))), .st 7 (List.replicate (k + 1) (qrow m (.sl 6 false (nsR (j + 1))) (wgR (j + 1)))) (site 5 69) (2 * k + 1), .st 2 (List.replicate (k + 1) (lrow (.sl 1 false (nxR (j + 1))))) (site 5 75) (2 * k + 1), .hs (site 5 46) 0 0 (k + 1) 1, .d (.sl 1 false (lkR (k + 1 + 1)))] false)) (site 5 46) 0 = some (.cells (List.replicate (k + 1) [AV.d dnil]).flatten false) := by
    simp [h5, H.get, H.set, lookS, putS, site]
  have he := rowsOf_hs (n := k + 1) (sz := 1) (rows := List.replicate (k + 1) [dnil]) (rest := []) (f := false) (hg.trans (by simp [List.map_flatten])) (by simp) (fun r h => by rw [(List.mem_replicate.1 h).2]; rfl) (fun r h => by rw [(List.mem_replicate.1 h).2]; intro y hy; simp at hy; subst hy; rfl)
  obtain ⟨h2, e⟩ := res_world (ws := wsR (j + 1)) (ts := tsR (j + 1)) (ls := lkR (k + 1 + 1)) (rq := List.replicate (k + 1) (qrow m (.sl 6 false (nsR (j + 1))) (wgR (j + 1)))) (rl := List.replicate (k + 1) (lrow (.sl 1 false (nxR (j + 1))))) (s1 := site 5 69) (s2 := site 5 75) (g1 := 2 * k + 1) (g2 := 2 * k + 1) hg he
  exact ⟨_, _, h2, hcall, e⟩

theorem new5n_main (k : Nat) (m : Int) (hk : k + 1 ≤ 64) (hj : 0 ≤ 64) : ∃ a h1 h2, Ev CN noO (.call 5 [vi ((k + 1 : Nat) : Int), vi ((0 : Nat) : Int), vu m] {}) (.val a h1) ∧
    resA h1 a = some ([.agg [.sl 1 false (wsR (0)), .sl 3 false (tsR (0)), .sl 7 false (List.replicate (k + 1) (qrow m (dnil) (wgR (0)))), .sl 2 false (List.replicate (k + 1) (lrow (dnil))), .sl 1 false (List.replicate (k + 1) [dnil]), .sl 1 false (lkR (k + 1 + 1))], pint 0], h2) := by
  have hl : new13Spec [pint ((k + 1 + 1 : Nat) : Int)] = some [.agg [.sl 1 false (lkR (k + 1 + 1))], pint 0] := by
    simp only [new13Spec, pint]
    rw [if_pos ⟨by omega, by omega⟩]
    simp only [Int.toNat_natCast]
    rfl
  have hq : que14Spec [pint ((0 : Nat) : Int), pu m] = some [.agg (qrow m (dnil) (wgR (0))), pint 0] := by
    simp only [que14Spec, pint, pu]
    rw [if_pos ⟨by omega, by omega⟩]
    simp only [Int.toNat_natCast]
    rfl
  have hx : new15Spec [pint ((0 : Nat) : Int)] = some [.agg (lrow (dnil)), pint 0] := by
    simp only [new15Spec, pint]
    rw [if_pos ⟨by omega, by omega⟩]
    simp only [Int.toNat_natCast]
    rfl
  have hloop := nw5n_loop (k + 1) (k + 1) ((0 : Nat) : Int) m (wsR (0)) (tsR (0)) (lkR (k + 1 + 1)) (wgR 0) (by omega) hq hx
  have hcall := sym_ev _ _ _ _ _ _ (nw5n_call ((k + 1 : Nat) : Int) ((0 : Nat) : Int) m ((k + 1 + 1 : Nat) : Int) (k + 1) (wsR (0)) (tsR (0)) (lkR (k + 1 + 1)) (List.replicate (k + 1) (qrow m (dnil) (wgR (0)))) (List.replicate (k + 1) (lrow (dnil))) (2 * k + 1) (2 * k + 1) (tk5n (k + 1)) (List.replicate (k + 1) [AV.d dnil]).flatten)
    (AllP_cons (decide_eq_false (by omega)) (AllP_cons (decide_eq_false (by omega)) (AllP_cons (decide_eq_false (by omega)) (AllP_cons (decide_eq_false (by omega)) (AllP_cons (tblS_at hj) (AllP_cons (wrap_add hk) (AllP_cons hl (AllP_cons ⟨rfl, rfl, (mks_ok hk (by decide)).1, (mks_ok (by_ := 24) hk (by decide)).2, by decide, rfl⟩ (AllP_cons hloop AllP_nil)))))))))
  have hg : H.get ((h5n (tk5n (k + 1)) (.st 7 (List.replicate (k + 1) (qrow m (dnil) (wgR (0)))) (site 5 69) (2 * k + 1)) (.st 2 (List.replicate (k + 1) (lrow (dnil))) (site 5 75) (2 * k + 1)) (wsR (0)) (tsR (0)) (lkR (k + 1 + 1)) (List.replicate (k + 1) [AV.d dnil]).flatten (k + 1)).set (site 5 6) 0 (.cells [.d (.sl 1 false (wsR (0))), .d (.sl 3 false (tsR (0))), .st 7 (List.replicate (k + 1) (qrow m (dnil) (wgR (0)))) (site 5 69) (2 * k + 1), .st 2 (List.replicate (k + 1) (lrow (dnil))) (site 5 75) (2 * k + 1), .hs (site 5 46) 0 0 (k + 1) 1, .d (.sl 1 false (lkR (k + 1 + 1)))] false)) (site 5 46) 0 = some (.cells (List.replicate (k + 1) [AV.d dnil]).flatten false) := by
    simp [h5n, H.get, H.set, lookS, putS, site]
  have he := rowsOf_hs (n := k + 1) (sz := 1) (rows := List.replicate (k + 1) [dnil]) (rest := []) (f := false) (hg.trans (by simp [List.map_flatten])) (by simp) (fun r h => by rw [(List.mem_replicate.1 h).2]; rfl) (fun r h => by rw [(List.mem_replicate.1 h).2]; intro y hy; simp at hy; subst hy; rfl)
  obtain ⟨h2, e⟩ := res_world (ws := wsR (0)) (ts := tsR (0)) (ls := lkR (k + 1 + 1)) (rq := List.replicate (k + 1) (qrow m (dnil) (wgR (0)))) (rl := List.replicate (k + 1) (lrow (dnil))) (s1 := site 5 69) (s2 := site 5 75) (g1 := 2 * k + 1) (g2 := 2 * k + 1) hg he
  exact ⟨_, _, h2, hcall, e⟩

theorem new4_sat : Sat CN 4 (newS wldP) := sat_of_ev (O := noO) hPN (fun _ _ h => h.elim) hm0 fun ps rs hs => by
  unfold newS at hs
  split at hs
  · rename_i c s m
    split at hs
    · rename_i hc
      simp only [Option.some.injEq] at hs
      subst hs
      obtain ⟨k, rfl⟩ := Int.eq_ofNat_of_zero_le (show 0 ≤ c by omega)
      obtain ⟨j, rfl⟩ := Int.eq_ofNat_of_zero_le hc.2.2.1
      simp only [Int.toNat_natCast]
      cases k with
      | zero => exact absurd hc.1 (by decide)
      | succ k => exact new4_main k j m (by omega) (by omega)
    · rename_i hc
      simp only [Option.some.injEq] at hs
      subst hs
      by_cases h1 : c < 1
      · exact symV_ev (new4_e0 c s m) (AllP_cons (decide_eq_true h1) AllP_nil)
      by_cases h2 : c > 64
      · exact symV_ev (new4_e1 c s m) (AllP_cons (decide_eq_false h1) (AllP_cons (decide_eq_true h2) AllP_nil))
      by_cases h3 : s < 0
      · exact symV_ev (new4_e2 c s m) (AllP_cons (decide_eq_false h1) (AllP_cons (decide_eq_false h2) (AllP_cons (decide_eq_true h3) AllP_nil)))
      by_cases h4 : s > 64
      · exact symV_ev (new4_e3 c s m) (AllP_cons (decide_eq_false h1) (AllP_cons (decide_eq_false h2) (AllP_cons (decide_eq_false h3) (AllP_cons (decide_eq_true h4) AllP_nil))))
      exact absurd ⟨by omega, by omega, by omega, by omega⟩ hc
  · cases hs
theorem new5_sat : Sat CN 5 (newS wldQ) := sat_of_ev (O := noO) hPN (fun _ _ h => h.elim) hm0 fun ps rs hs => by
  unfold newS at hs
  split at hs
  · rename_i c s m
    split at hs
    · rename_i hc
      simp only [Option.some.injEq] at hs
      subst hs
      obtain ⟨k, rfl⟩ := Int.eq_ofNat_of_zero_le (show 0 ≤ c by omega)
      obtain ⟨j, rfl⟩ := Int.eq_ofNat_of_zero_le hc.2.2.1
      simp only [Int.toNat_natCast]
      cases k with
      | zero => exact absurd hc.1 (by decide)
      | succ k =>
        cases j with
        | zero => exact new5n_main k m (by omega) (by omega)
        | succ j => exact new5_main k j m (by omega) (by omega)
    · rename_i hc
      simp only [Option.some.injEq] at hs
      subst hs
      by_cases h1 : c < 1
      · exact symV_ev (new5_e0 c s m) (AllP_cons (decide_eq_true h1) AllP_nil)
      by_cases h2 : c > 64
      · exact symV_ev (new5_e1 c s m) (AllP_cons (decide_eq_false h1) (AllP_cons (decide_eq_true h2) AllP_nil))
      by_cases h3 : s < 0
      · exact symV_ev (new5_e2 c s m) (AllP_cons (decide_eq_false h1) (AllP_cons (decide_eq_false h2) (AllP_cons (decide_eq_true h3) AllP_nil)))
      by_cases h4 : s > 64
      · exact symV_ev (new5_e3 c s m) (AllP_cons (decide_eq_false h1) (AllP_cons (decide_eq_false h2) (AllP_cons (decide_eq_false h3) (AllP_cons (decide_eq_true h4) AllP_nil))))
      exact absurd ⟨by omega, by omega, by omega, by omega⟩ hc
  · cases hs
end Go.Ev
