/- Whatever bytes it is given, the Go function turnspit/turnspitlaw20.PastSwaps returns true, does not panic, and leaves its argument as it was. No conditions. -/
import Derived.Test.YtgpdnahmgacffaaMJ
import Derived.Test.YtgpdnahmgacffaaMH
set_option linter.unusedVariables false
set_option linter.unusedSimpArgs false

namespace Go.Ev
open Go Go.RowKit Go.Proofs

noncomputable def C11 : Ctx := { P := Try.prog, prim := primL L9, wr := fun f d => f == 8 && d == 50 }
theorem hP11 : PrimOK C11 := fun g s h => by
  obtain ⟨h1, h2⟩ := hP10 g s h
  exact ⟨h1.ctx rfl rfl, h2⟩
def s8 (r : List (List DV)) (O : List (List DV)) (more : List (Nat × AV)) : St := { σ := slots 89 ((3, vb true) :: (4, .d (.sl 7 false r)) :: (5, .d (.sl 1 false O)) :: more), h := {} }
def hp8 (cs : List AV) (fz : Bool) : H := { objs := [(site 8 50, 1, [.cells cs fz])] }
theorem sw_n (r O ro : List (List DV)) (i k : Int) (n : Int) (h1 : (ro.length : Int) = n) (h2 : decide (k < n) = false) :
    Ev C11 noO (.code 8 false (loopOf Try.prog 8 1) (s8 r O [(7, vi i), (8, .d (.sl 2 false ro)), (9, vi k)])) (.code (.exit 2) (s8 r O [(7, vi i)])) :=
  symM_ev (n := 60) (sc := [(site 8 45, Dec.int n), (site 8 46, Dec.b false)]) (keep := [3, 4, 5, 7]) (sc' := []) (by kernel_rfl) (AllP_cons h1 (AllP_cons h2 AllP_nil))
theorem sw_z (r O : List (List DV)) (i : Int) :
    Ev C11 noO (.code 8 false (loopOf Try.prog 8 1) (s8 r O [(7, vi i), (8, .d (.v (.slice none 0 0))), (9, vi 1)])) (.code (.exit 2) (s8 r O [(7, vi i)])) :=
  symM_ev (n := 60) (sc := []) (keep := [3, 4, 5, 7]) (sc' := []) (by kernel_rfl) AllP_nil
theorem sw_t (r O ro : List (List DV)) (i k j k1 : Int) (n : Int) (p q : Nat) (a b : Int × Int) (l1 l2 : List (Int × Int)) (x : X) (s : St) (h1 : (ro.length : Int) = n) (h2 : decide (k < n) = true)
    (h3 : ro.isEmpty = false ∧ fitsP 0 ro.length 16) (h4 : wr64 (k - 1) = j) (h5 : 0 ≤ k ∧ ro[k.toNat]? = some (rowC b)) (h6 : j = q ∧ q < 0 + ro.length)
    (h7 : stoEq C11 23 ([] ++ ro.flatten.map .d) (0 + q * 2) (.agg [vi b.1, vi b.2]) (pcells l1)) (h8 : 0 ≤ j ∧ ro[j.toNat]? = some (rowC a)) (h9 : k = p ∧ p < 0 + ro.length)
    (h10 : stoEq C11 23 (pcells l1) (0 + p * 2) (.agg [vi a.1, vi a.2]) (pcells l2)) (h11 : freeze1 (hp8 (pcells l2) false) (.hs (site 8 50) 0 0 (0 + ro.length) 2) = some (.one (.sl 2 false (rowsP l2)), hp8 (pcells l2) true))
    (h12 : beforeSpec [.one (.sl 7 false r), .agg (rowC a), .agg (rowC b)] = some [pbool true]) (h13 : pfitsSpec [.one (.sl 7 false r), .one (.sl 2 false (rowsP l2))] = some [pint 9]) (h14 : wr64 (k + 1) = k1)
    (h15 : Ev C11 noO (.code 8 false (loopOf Try.prog 8 1) (s8 r O [(7, vi i), (8, .d (.sl 2 false ro)), (9, vi k1)])) (.code x s)) :
    Ev C11 noO (.code 8 false (loopOf Try.prog 8 1) (s8 r O [(7, vi i), (8, .d (.sl 2 false ro)), (9, vi k)])) (.code x s) :=
  sym_ev 60 _ [(site 8 45, Dec.int n), (site 8 46, Dec.b true), (site 8 50, Dec.app false), (site 8 53, Dec.int j), (site 8 56, Dec.row (rowC b)), (site 8 58, Dec.idx q), (site 8 8000, Dec.sto (pcells l1)), (site 8 63, Dec.int j), (site 8 64, Dec.row (rowC a)), (site 8 66, Dec.idx p), (site 8 8000, Dec.sto (pcells l2)),
    (site 8 8005, Dec.frz 10 (.one (.sl 2 false (rowsP l2))) (hp8 (pcells l2) true) (site 8 50) 0), (site 8 70, Dec.int j), (site 8 71, Dec.row (rowC a)), (site 8 75, Dec.row (rowC b)), (site 8 77, Dec.prim [pbool true]), (site 8 80, Dec.prim [pint 9]), (site 8 48, Dec.int k1), (site 8 8002, Dec.drop [site 8 50] [3, 4, 5, 7, 8, 9]), (site 8 8001, Dec.loop [3, 4, 5, 7, 8, 9] x s)] _ [] _ (by kernel_rfl)
    (AllP_cons h1 (AllP_cons h2 (AllP_cons h3 (AllP_cons h4 (AllP_cons h5 (AllP_cons h6 (AllP_cons h7 (AllP_cons h4 (AllP_cons h8 (AllP_cons h9 (AllP_cons h10 (AllP_cons h11 (AllP_cons (rfl : true = true) (AllP_cons h4 (AllP_cons h8 (AllP_cons h5 (AllP_cons h12 (AllP_cons h13 (AllP_cons h14 (AllP_cons (rfl : true = true) (AllP_cons (rfl : true = true) (AllP_cons (rfl : true = true) (AllP_cons h15 AllP_nil)))))))))))))))))))))))
theorem sw_f (r O ro : List (List DV)) (i k j k1 : Int) (n : Int) (p q : Nat) (a b : Int × Int) (l1 l2 : List (Int × Int)) (x : X) (s : St) (h1 : (ro.length : Int) = n) (h2 : decide (k < n) = true)
    (h3 : ro.isEmpty = false ∧ fitsP 0 ro.length 16) (h4 : wr64 (k - 1) = j) (h5 : 0 ≤ k ∧ ro[k.toNat]? = some (rowC b)) (h6 : j = q ∧ q < 0 + ro.length)
    (h7 : stoEq C11 23 ([] ++ ro.flatten.map .d) (0 + q * 2) (.agg [vi b.1, vi b.2]) (pcells l1)) (h8 : 0 ≤ j ∧ ro[j.toNat]? = some (rowC a)) (h9 : k = p ∧ p < 0 + ro.length)
    (h10 : stoEq C11 23 (pcells l1) (0 + p * 2) (.agg [vi a.1, vi a.2]) (pcells l2)) (h11 : freeze1 (hp8 (pcells l2) false) (.hs (site 8 50) 0 0 (0 + ro.length) 2) = some (.one (.sl 2 false (rowsP l2)), hp8 (pcells l2) true))
    (h12 : beforeSpec [.one (.sl 7 false r), .agg (rowC a), .agg (rowC b)] = some [pbool false]) (h13 : pfitsSpec [.one (.sl 7 false r), .one (.sl 2 false (rowsP l2))] = some [pint 0]) (h14 : wr64 (k + 1) = k1)
    (h15 : Ev C11 noO (.code 8 false (loopOf Try.prog 8 1) (s8 r O [(7, vi i), (8, .d (.sl 2 false ro)), (9, vi k1)])) (.code x s)) :
    Ev C11 noO (.code 8 false (loopOf Try.prog 8 1) (s8 r O [(7, vi i), (8, .d (.sl 2 false ro)), (9, vi k)])) (.code x s) :=
  sym_ev 60 _ [(site 8 45, Dec.int n), (site 8 46, Dec.b true), (site 8 50, Dec.app false), (site 8 53, Dec.int j), (site 8 56, Dec.row (rowC b)), (site 8 58, Dec.idx q), (site 8 8000, Dec.sto (pcells l1)), (site 8 63, Dec.int j), (site 8 64, Dec.row (rowC a)), (site 8 66, Dec.idx p), (site 8 8000, Dec.sto (pcells l2)),
    (site 8 8005, Dec.frz 10 (.one (.sl 2 false (rowsP l2))) (hp8 (pcells l2) true) (site 8 50) 0), (site 8 70, Dec.int j), (site 8 71, Dec.row (rowC a)), (site 8 75, Dec.row (rowC b)), (site 8 77, Dec.prim [pbool false]), (site 8 80, Dec.prim [pint 0]), (site 8 48, Dec.int k1), (site 8 8002, Dec.drop [site 8 50] [3, 4, 5, 7, 8, 9]), (site 8 8001, Dec.loop [3, 4, 5, 7, 8, 9] x s)] _ [] _ (by kernel_rfl)
    (AllP_cons h1 (AllP_cons h2 (AllP_cons h3 (AllP_cons h4 (AllP_cons h5 (AllP_cons h6 (AllP_cons h7 (AllP_cons h4 (AllP_cons h8 (AllP_cons h9 (AllP_cons h10 (AllP_cons h11 (AllP_cons (rfl : true = true) (AllP_cons h4 (AllP_cons h8 (AllP_cons h5 (AllP_cons h12 (AllP_cons h13 (AllP_cons h14 (AllP_cons (rfl : true = true) (AllP_cons (rfl : true = true) (AllP_cons (rfl : true = true) (AllP_cons h15 AllP_nil)))))))))))))))))))))))
theorem sz_n (r O : List (List DV)) (i n : Int) (h1 : (O.length : Int) = n) (h2 : decide (i < n) = false) :
    Ev C11 noO (.code 8 false (loopOf Try.prog 8 0) (s8 r O [(7, vi i)])) (.code (.exit 0) { σ := slots 89 [(3, vb true), (5, .d (.sl 1 false O))], h := {} }) :=
  symM_ev (n := 60) (sc := [(site 8 31, Dec.int n), (site 8 32, Dec.b false)]) (keep := [3, 5]) (sc' := []) (by kernel_rfl) (AllP_cons h1 (AllP_cons h2 AllP_nil))
theorem sz_y (r O ro : List (List DV)) (i n i1 : Int) (x : X) (s : St) (h1 : (O.length : Int) = n) (h2 : decide (i < n) = true) (h3 : 0 ≤ i ∧ O[i.toNat]? = some [(.sl 2 false ro)]) (h4 : pfitsSpec [.one (.sl 7 false r), .one (.sl 2 false ro)] = some [pint 0])
    (h5 : Ev C11 noO (.code 8 false (loopOf Try.prog 8 1) (s8 r O [(7, vi i), (8, .d (.sl 2 false ro)), (9, vi 1)])) (.code (.exit 2) (s8 r O [(7, vi i)]))) (h6 : wr64 (i + 1) = i1)
    (h7 : Ev C11 noO (.code 8 false (loopOf Try.prog 8 0) (s8 r O [(7, vi i1)])) (.code x s)) : Ev C11 noO (.code 8 false (loopOf Try.prog 8 0) (s8 r O [(7, vi i)])) (.code x s) :=
  sym_ev 60 _ [(site 8 31, Dec.int n), (site 8 32, Dec.b true), (site 8 37, Dec.row [(.sl 2 false ro)]), (site 8 41, Dec.prim [pint 0]), (site 8 8001, Dec.loop [3, 4, 5, 7, 8, 9] (.exit 2) (s8 r O [(7, vi i)])), (site 8 34, Dec.int i1), (site 8 8001, Dec.loop [3, 4, 5, 7] x s)] _ [] _ (by kernel_rfl)
    (AllP_cons h1 (AllP_cons h2 (AllP_cons h3 (AllP_cons h4 (AllP_cons h5 (AllP_cons h6 (AllP_cons h7 AllP_nil)))))))
theorem sz_z (r O ro : List (List DV)) (i n i1 : Int) (x : X) (s : St) (h1 : (O.length : Int) = n) (h2 : decide (i < n) = true) (h3 : 0 ≤ i ∧ O[i.toNat]? = some [(.v (.slice none 0 0))]) (h4 : pfitsSpec [.one (.sl 7 false r), .one (.v (.slice none 0 0))] = some [pint 0])
    (h5 : Ev C11 noO (.code 8 false (loopOf Try.prog 8 1) (s8 r O [(7, vi i), (8, .d (.v (.slice none 0 0))), (9, vi 1)])) (.code (.exit 2) (s8 r O [(7, vi i)]))) (h6 : wr64 (i + 1) = i1)
    (h7 : Ev C11 noO (.code 8 false (loopOf Try.prog 8 0) (s8 r O [(7, vi i1)])) (.code x s)) : Ev C11 noO (.code 8 false (loopOf Try.prog 8 0) (s8 r O [(7, vi i)])) (.code x s) :=
  sym_ev 60 _ [(site 8 31, Dec.int n), (site 8 32, Dec.b true), (site 8 37, Dec.row [(.v (.slice none 0 0))]), (site 8 41, Dec.prim [pint 0]), (site 8 8001, Dec.loop [3, 4, 5, 7, 8, 9] (.exit 2) (s8 r O [(7, vi i)])), (site 8 34, Dec.int i1), (site 8 8001, Dec.loop [3, 4, 5, 7] x s)] _ [] _ (by kernel_rfl)
    (AllP_cons h1 (AllP_cons h2 (AllP_cons h3 (AllP_cons h4 (AllP_cons h5 (AllP_cons h6 (AllP_cons h7 AllP_nil)))))))
theorem sc_l (fu : Bool) (ru r : List (List DV)) (h1 : madeSpec [.one (.sl 1 fu ru), .one (di 10)] = some [.one (.sl 7 false r)]) (h2 : ordersSpec [.one (.sl 7 false r), .one (di 40)] = some [nilPV, pint 2]) :
    Ev C11 noO (.call 8 [.d (.sl 1 fu ru)] {}) (.val (vb true) {}) :=
  sym_ev 80 _ [(site 8 16, Dec.prim [.one (.sl 7 false r)]), (site 8 19, Dec.prim [nilPV, pint 2])] _ [] _ (by kernel_rfl) (AllP_cons h1 (AllP_cons h2 AllP_nil))
theorem sc_y (fu : Bool) (ru r O : List (List DV)) (n : Int) (h1 : madeSpec [.one (.sl 1 fu ru), .one (di 10)] = some [.one (.sl 7 false r)]) (h2 : ordersSpec [.one (.sl 7 false r), .one (di 40)] = some [.one (.sl 1 false O), pint 0])
    (h3 : Ev C11 noO (.code 8 false (loopOf Try.prog 8 0) (s8 r O [(7, vi 0)])) (.code (.exit 0) { σ := slots 89 [(3, vb true), (5, .d (.sl 1 false O))], h := {} })) (h4 : (O.length : Int) = n) (h5 : decide (n > 0) = true) :
    Ev C11 noO (.call 8 [.d (.sl 1 fu ru)] {}) (.val (vb true) {}) :=
  sym_ev 80 _ [(site 8 16, Dec.prim [.one (.sl 7 false r)]), (site 8 19, Dec.prim [.one (.sl 1 false O), pint 0]), (site 8 8001, Dec.loop [3, 4, 5, 7] (.exit 0) { σ := slots 89 [(3, vb true), (5, .d (.sl 1 false O))], h := {} }), (site 8 86, Dec.int n), (site 8 87, Dec.b true)] _ [] _ (by kernel_rfl) (AllP_cons h1 (AllP_cons h2 (AllP_cons h3 (AllP_cons h4 (AllP_cons h5 AllP_nil)))))
theorem sc_N : Ev C11 noO (.call 8 [.d (.v (.slice none 0 0))] {}) (.val (vb true) {}) :=
  sym_ev 200 _ [] _ [] _ (by kernel_rfl) AllP_nil
theorem sc_e (fu : Bool) (ru : List (List DV)) (h1 : madeSpec [.one (.sl 1 fu ru), .one (di 10)] = some [nilPV]) :
    Ev C11 noO (.call 8 [.d (.sl 1 fu ru)] {}) (.val (vb true) {}) :=
  sym_ev 200 _ [(site 8 16, Dec.prim [nilPV])] _ [] _ (by kernel_rfl) (AllP_cons h1 AllP_nil)

end Go.Ev

namespace Go.Ev
open Go

theorem rf1_true {l : List Evt} : ∀ (order pre : List (Int × Int)), rf1 l pre order = true → (∀ c ∈ order, 0 ≤ placeI c false l) ∧ (pre.Nodup → (pre ++ order).Nodup)
  | [], pre, _ => ⟨by simp, fun h => by simpa using h⟩
  | c :: r, pre, h => by
    unfold rf1 at h
    split at h
    · cases h
    · rename_i h0
      split at h
      · cases h
      · rename_i hc
        obtain ⟨h1, h2⟩ := rf1_true r (pre ++ [c]) h
        refine ⟨fun d hd => ?_, fun hn => ?_⟩
        · rcases List.mem_cons.1 hd with rfl | hd
          · omega
          · exact h1 d hd
        · have hni : c ∉ pre := fun hm => hc (List.contains_iff_mem.2 hm)
          have := h2 (by rw [List.nodup_append]; exact ⟨hn, by simp, fun a ha b hb e => by simp at hb; subst hb; exact hni (by rw [← e]; exact ha)⟩)
          simpa using this
theorem rf3_true {l : List Evt} : ∀ (order pre : List (Int × Int)), rf3 l pre order = true → order.Pairwise (fun d c => refBeforeB l c d = false) ∧ ∀ d ∈ pre, ∀ c ∈ order, refBeforeB l c d = false
  | [], pre, _ => by simp
  | c :: r, pre, h => by
    unfold rf3 at h
    split at h
    · rename_i hi
      obtain ⟨h1, h2⟩ := rf3_true r (pre ++ [c]) h
      refine ⟨List.pairwise_cons.2 ⟨fun d hd => h2 c (by simp) d hd, h1⟩, fun d hd e he => ?_⟩
      rcases List.mem_cons.1 he with rfl | he
      · cases hb : refBeforeB l e d with
        | false => rfl
        | true =>
          have := (rf3i_iff l e pre).2 ⟨d, hd, hb⟩
          rw [hi] at this; cases this
      · exact h2 d (by simp [hd]) e he
    · cases h
section
variable {l : List Evt} (h : rightB l = true)
include h
theorem fits_inv {order : List (Int × Int)} (hf : fitsB l order = 0) : (∀ c ∈ order, 0 ≤ placeI c false l) ∧ order.Nodup ∧ (∀ s ∈ spansI l, 0 ≤ s.2.2.2 → (s.1, s.2.1) ∈ order) ∧ order.Pairwise (fun d c => beforeB l c d = false) := by
  rw [fits_eq] at hf
  unfold refFitsB at hf
  have hr := h
  rw [right_eq] at hr
  rw [hr] at hf
  simp only [Bool.true_eq_false, if_false] at hf
  split at hf
  · omega
  · rename_i e1
    split at hf
    · omega
    · rename_i e2
      split at hf
      · omega
      · rename_i e3
        simp only [Bool.not_eq_false] at e1 e2 e3
        obtain ⟨a1, a2⟩ := rf1_true order [] e1
        obtain ⟨b1, _⟩ := rf3_true order [] e3
        refine ⟨a1, by simpa using a2 (by simp), fun s hs h0 => ?_, by simpa [before_eq] using b1⟩
        rw [spans_eq] at hs
        cases e : order.contains (s.1, s.2.1) with
        | true => exact List.contains_iff_mem.1 e
        | false =>
          have := (rf2_iff order (refSpansI l)).2 ⟨s, hs, h0, e⟩
          rw [e2] at this; cases this
theorem fits_val {order : List (Int × Int)} (h1 : ∀ c ∈ order, 0 ≤ placeI c false l) (hn : order.Nodup) (h2 : ∀ s ∈ spansI l, 0 ≤ s.2.2.2 → (s.1, s.2.1) ∈ order) : fitsB l order = if rf3 l [] order = false then 9 else 0 := by
  rw [fits_eq]
  unfold refFitsB
  have hr := h
  rw [right_eq] at hr
  rw [hr, rf1_of order [] h1 (by simpa using hn)]
  have e2 : rf2 order (refSpansI l) = true := by
    cases e : rf2 order (refSpansI l) with
    | true => rfl
    | false =>
      obtain ⟨s, hs, h4, h5⟩ := (rf2_iff order _).1 e
      rw [← spans_eq] at hs
      have := h2 s hs h4
      rw [← List.contains_iff_mem, h5] at this
      cases this
  rw [e2]
  simp
/-- two that stand side by side change places -/
theorem fits_swap {A B : List (Int × Int)} {x y : Int × Int} (hf : fitsB l (A ++ x :: y :: B) = 0) : fitsB l (A ++ y :: x :: B) = if beforeB l x y then 9 else 0 := by
  obtain ⟨h1, hn, h2, h3⟩ := fits_inv h hf
  have hp : (A ++ x :: y :: B).Perm (A ++ y :: x :: B) := List.Perm.append_left A (List.Perm.swap y x B)
  rw [fits_val h (fun c hc => h1 c (hp.mem_iff.2 hc)) (hp.nodup_iff.1 hn) (fun s hs h0 => hp.mem_iff.1 (h2 s hs h0))]
  have key : rf3 l [] (A ++ y :: x :: B) = true ↔ beforeB l x y = false := by
    constructor
    · intro hr
      obtain ⟨b1, _⟩ := rf3_true _ [] hr
      rw [List.pairwise_append] at b1
      have := (List.pairwise_cons.1 b1.2.1).1 x (by simp)
      rw [before_eq]; exact this
    · intro hb
      refine rf3_of _ [] ?_
      simp only [List.nil_append]
      rw [List.pairwise_append] at h3 ⊢
      obtain ⟨p1, p2, p3⟩ := h3
      obtain ⟨p4, p5⟩ := List.pairwise_cons.1 p2
      obtain ⟨p6, p7⟩ := List.pairwise_cons.1 p5
      have eb : ∀ a b, refBeforeB l a b = beforeB l a b := fun a b => (before_eq l a b).symm
      simp only [eb]
      refine ⟨p1, List.pairwise_cons.2 ⟨fun c hc => ?_, List.pairwise_cons.2 ⟨fun c hc => p4 c (by simp [hc]), p7⟩⟩, fun a ha b hb' => p3 a ha b ?_⟩
      · rcases List.mem_cons.1 hc with rfl | hc
        · exact hb
        · exact p6 c hc
      · rcases List.mem_cons.1 hb' with rfl | hb'
        · simp
        · rcases List.mem_cons.1 hb' with rfl | hb'
          · simp
          · simp [hb']
  cases hb : beforeB l x y with
  | true =>
    have : rf3 l [] (A ++ y :: x :: B) = false := by
      cases e : rf3 l [] (A ++ y :: x :: B) with
      | false => rfl
      | true => have := key.1 e; rw [hb] at this; cases this
    rw [this]; rfl
  | false => rw [key.2 hb]; rfl
end
theorem every_fits (m : MapE) (L : List (Int × Int)) : ∀ (n : Nat) (o x : List (Int × Int)), x ∈ everyL m L n o → fitsI m x = 0
  | 0, o, x, hx => by
    simp only [everyL, selfL] at hx
    split at hx
    · rename_i h; simp at hx; subst hx; exact h
    · simp at hx
  | n + 1, o, x, hx => by
    simp only [everyL] at hx
    rcases List.mem_append.1 hx with hx | hx
    · simp only [selfL] at hx
      split at hx
      · rename_i h; simp at hx; subst hx; exact h
      · simp at hx
    · obtain ⟨c, _, hc⟩ := List.mem_flatMap.1 hx
      unfold tryC at hc
      split at hc
      · simp at hc
      · split at hc
        · simp at hc
        · exact every_fits m L n _ x hc
theorem ord_fits {l : List Evt} (h : rightB l = true) {o : List (Int × Int)} (ho : o ∈ ordL l) : fitsB l o = 0 := by
  unfold fitsB
  rw [h, if_pos rfl]
  exact every_fits _ _ _ _ _ ho
theorem mem_insL (a : Int × Int) : ∀ (rp : List (Int × Int)) (c : Int × Int) (d : List (Int × Int)), a ∈ insL rp c d ↔ a ∈ rp ∨ a = c ∨ a ∈ d
  | [], c, d => by simp [insL]
  | x :: rp, c, d => by
    unfold insL
    split
    · rw [mem_insL a rp c (x :: d)]
      simp only [List.mem_cons]
      constructor
      · rintro (h | h | h | h)
        · exact .inl (.inr h)
        · exact .inr (.inl h)
        · exact .inl (.inl h)
        · exact .inr (.inr h)
      · rintro ((h | h) | h | h)
        · exact .inr (.inr (.inl h))
        · exact .inl h
        · exact .inr (.inl h)
        · exact .inr (.inr (.inr h))
    · simp only [List.mem_append, List.mem_reverse, List.mem_cons]
theorem mem_sortL (a : Int × Int) : ∀ (r p : List (Int × Int)), a ∈ sortL p r ↔ a ∈ p ∨ a ∈ r
  | [], p => by simp [sortL]
  | c :: r, p => by
    unfold sortL
    rw [mem_sortL a r, mem_insL]
    simp only [List.mem_reverse, List.mem_cons, List.not_mem_nil, or_false]
    constructor
    · rintro ((h | h) | h)
      · exact .inl h
      · exact .inr (.inl h)
      · exact .inr (.inr h)
    · rintro (h | h | h)
      · exact .inl (.inl h)
      · exact .inl (.inr h)
      · exact .inr h
/-- one that began before all others -/
theorem least_of (f : Int × Int → Int) : ∀ (R : List (Int × Int)), R ≠ [] → ∃ c ∈ R, ∀ d ∈ R, f c ≤ f d
  | [], h => absurd rfl h
  | [c], _ => ⟨c, by simp, by simp⟩
  | c :: d :: r, _ => by
    obtain ⟨e, h1, h2⟩ := least_of f (d :: r) (by simp)
    by_cases hc : f c ≤ f e
    · exact ⟨c, by simp, fun x hx => by
        rcases List.mem_cons.1 hx with rfl | hx
        · omega
        · have := h2 x hx; omega⟩
    · exact ⟨e, List.mem_cons_of_mem _ h1, fun x hx => by
        rcases List.mem_cons.1 hx with rfl | hx
        · omega
        · exact h2 x hx⟩
theorem ahead_before {l : List Evt} (h : rightB l = true) {x c : Int × Int} (hx : 0 ≤ placeI x false l) (hc : 0 ≤ placeI c false l) :
    aheadI ((getKV x (metL 0 l [])).getD (0, 0)) ((getKV c (metL 0 l [])).getD (0, 0)) = beforeB l x c := by
  have hm := (met_of h).1
  unfold beforeB
  rw [h, (get_some hm x).2 hx, (get_some hm c).2 hc]
  simp
theorem every_ne {l : List Evt} (h : rightB l = true) {L : List (Int × Int)} (hL : ∀ c, c ∈ L ↔ c ∈ begI l) : ∀ (n : Nat) (o : List (Int × Int)), o.Nodup → (∀ x ∈ o, x ∈ L) → L.length ≤ o.length + n →
    o.Pairwise (fun d c => beforeB l c d = false) → (∀ c ∈ o, ∀ x ∈ L, beforeB l x c = true → x ∈ o) → everyL (metL 0 l []) L n o ≠ [] := by
  intro n
  induction n with
  | zero =>
    intro o hn hs hlen hp hd
    have hall : ∀ c ∈ L, c ∈ o := fun c hc => by
      cases e : decide (c ∈ o) with
      | true => exact of_decide_eq_true e
      | false =>
        have hni := of_decide_eq_false e
        have := len_of_sub (c :: o) L (List.nodup_cons.2 ⟨hni, hn⟩) (fun x hx => by
          rcases List.mem_cons.1 hx with rfl | hx
          · exact hc
          · exact hs x hx)
        simp at this
        omega
    have hf : fitsB l o = 0 := fits0 h (fun c hc => (mem_beg h c).1 ((hL c).1 (hs c hc))) hn (fun s hs' _ => hall _ ((hL _).2 (List.mem_map.2 ⟨s, hs', rfl⟩))) hp
    have hf' : fitsI (metL 0 l []) o = 0 := by unfold fitsB at hf; rw [h, if_pos rfl] at hf; exact hf
    simp only [everyL, selfL, hf', if_true]
    simp
  | succ n ih =>
    intro o hn hs hlen hp hd
    by_cases hR : (L.filter fun c => !o.contains c) = []
    · have hall : ∀ c ∈ L, c ∈ o := fun c hc => by
        cases e : o.contains c with
        | true => exact List.contains_iff_mem.1 e
        | false =>
          have : c ∈ L.filter fun c => !o.contains c := by rw [List.mem_filter]; exact ⟨hc, by rw [e]; rfl⟩
          rw [hR] at this; simp at this
      have hf : fitsB l o = 0 := fits0 h (fun c hc => (mem_beg h c).1 ((hL c).1 (hs c hc))) hn (fun s hs' _ => hall _ ((hL _).2 (List.mem_map.2 ⟨s, hs', rfl⟩))) hp
      have hf' : fitsI (metL 0 l []) o = 0 := by unfold fitsB at hf; rw [h, if_pos rfl] at hf; exact hf
      simp only [everyL, selfL, hf', if_true]
      simp
    · obtain ⟨c, hc, hmin⟩ := least_of (fun c => placeI c false l) _ hR
      rw [List.mem_filter] at hc
      obtain ⟨hcL, hco⟩ := hc
      have hco' : o.contains c = false := by simpa using hco
      have hni : c ∉ o := fun hm => by rw [List.contains_iff_mem.2 hm] at hco'; cases hco'
      have hcb := (mem_beg h c).1 ((hL c).1 hcL)
      have hfree : ∀ x ∈ L, x ∉ o → beforeB l x c = false := fun x hx hxo => by
        refine nbf h fun hh => ?_
        have hxb := (mem_beg h x).1 ((hL x).1 hx)
        have h1 := end_after h x hh.1 hxb
        have h2 := hmin x (by
          rw [List.mem_filter]
          refine ⟨hx, ?_⟩
          cases e : o.contains x with
          | false => rfl
          | true => exact absurd (List.contains_iff_mem.1 e) hxo)
        omega
      have hbl : blockedB (metL 0 l []) L o c = false := by
        cases e : blockedB (metL 0 l []) L o c with
        | false => rfl
        | true =>
          unfold blockedB at e
          rw [List.any_eq_true] at e
          obtain ⟨x, hx, hxx⟩ := e
          simp only [Bool.and_eq_true, Bool.not_eq_true'] at hxx
          have hxo : x ∉ o := fun hm => by rw [List.contains_iff_mem.2 hm] at hxx; cases hxx.1
          rw [ahead_before h ((mem_beg h x).1 ((hL x).1 hx)) hcb, hfree x hx hxo] at hxx
          cases hxx.2
      have hnext := ih (o ++ [c]) (by rw [List.nodup_append]; exact ⟨hn, by simp, fun a ha b hb e => by simp at hb; subst hb; exact hni (by rw [← e]; exact ha)⟩)
        (fun x hx => by rcases List.mem_append.1 hx with hx | hx; exact hs x hx; simp at hx; subst hx; exact hcL) (by simp; omega)
        (by
          rw [List.pairwise_append]
          refine ⟨hp, by simp, fun d hdo e he => ?_⟩
          simp at he; subst he
          cases hb : beforeB l e d with
          | false => rfl
          | true => exact absurd (hd d hdo e hcL hb) hni)
        (fun e he x hx hb => by
          rcases List.mem_append.1 he with he | he
          · exact List.mem_append.2 (.inl (hd e he x hx hb))
          · simp at he; subst he
            by_cases hxo : x ∈ o
            · exact List.mem_append.2 (.inl hxo)
            · rw [hfree x hx hxo] at hb; cases hb)
      intro hnil
      simp only [everyL] at hnil
      have h2 := (List.append_eq_nil_iff.1 hnil).2
      rw [List.flatMap_eq_nil_iff] at h2
      have := h2 c hcL
      simp only [tryC, hco', hbl] at this
      exact hnext this
theorem ord_ne {l : List Evt} (h : rightB l = true) (h7 : (metL 0 l []).length ≤ 7) : ordL l ≠ [] := by
  unfold ordL
  have := met_beg h
  exact every_ne h (fun c => by rw [mem_sortL]; simp) 7 [] List.nodup_nil (by simp) (by rw [sortL_len]; simp; omega) (by simp) (by simp)

end Go.Ev

namespace Go.Ev
open Go Go.RowKit Go.Proofs

theorem pfits_sl {l : List Evt} {o : List (Int × Int)} (hb : l.length < 2 ^ 40) (ho : o.length < 2 ^ 40) : pfitsSpec [.one (.sl 7 false (evRows l)), .one (.sl 2 false (rowsP o))] = some [.one (di (fitsB l o))] := by
  have e : callsOf (.one (.sl 2 false (rowsP o))) = some o := callsOf_sl false o
  simp only [pfitsSpec, evtsOf_sl, e, hb, ho, and_self, if_true]; rfl
theorem pfits_nl {l : List Evt} (hb : l.length < 2 ^ 40) : pfitsSpec [.one (.sl 7 false (evRows l)), .one (.v (.slice none 0 0))] = some [.one (di (fitsB l []))] := by
  have e : callsOf (.one (.v (.slice none 0 0))) = some [] := rfl
  simp only [pfitsSpec, evtsOf_sl, e, hb]; rfl
theorem before_sl {l : List Evt} (a b : Int × Int) (hb : l.length < 2 ^ 40) : beforeSpec [.one (.sl 7 false (evRows l)), .agg (rowC a), .agg (rowC b)] = some [.one (db (beforeB l a b))] := by
  have hpa : pairOf (.agg (rowC a)) = some a := rfl
  have hpb : pairOf (.agg (rowC b)) = some b := rfl
  simp only [beforeSpec, evtsOf_sl, hpa, hpb, hb, if_true]; rfl
theorem pc_flat (o : List (Int × Int)) : ([] : List AV) ++ (rowsP o).flatten.map .d = pcells o := by
  rw [List.nil_append]
  induction o with
  | nil => rfl
  | cons c l ih =>
    show List.map AV.d ([di c.1, di c.2] ++ (rowsP l).flatten) = [vi c.1, vi c.2] ++ pcells l
    rw [List.map_append, ih]; rfl
theorem frz8 (l : List (Int × Int)) (n : Nat) (hn : l.length = n) : freeze1 (hp8 (pcells l) false) (.hs (site 8 50) 0 0 n 2) = some (.one (.sl 2 false (rowsP l)), hp8 (pcells l) true) := by
  have hg : (hp8 (pcells l) false).get (site 8 50) 0 = some (.cells (pcells l) false) := by kernel_rfl
  have hs : (hp8 (pcells l) false).set (site 8 50) 0 (.cells (pcells l) true) = hp8 (pcells l) true := by kernel_rfl
  have ht : takeCells (pcells l) 0 (n * 2) = some (pcells l) := by
    unfold takeCells
    have := pcells_len l
    rw [if_pos (by omega), List.drop_zero, List.take_of_length_le (by omega)]
  have hc : chunk 2 n (rowsP l).flatten = rowsP l := by
    have := chunk_rows (w := 2) (rowsP l) (fun r hr => by
      simp only [rowsP, List.mem_map] at hr
      obtain ⟨c, _, rfl⟩ := hr
      rfl)
    rw [show (rowsP l).length = n by simp [rowsP, hn]] at this
    exact this
  simp only [freeze1, hg, rowsOf, ht, pcells_D, hc, hs]
section
variable {l : List Evt} (hr : rightB l = true) (hb : l.length < 2 ^ 40)
include hr hb
theorem sw_loop (O : List (List DV)) (i : Int) {o : List (Int × Int)} (hf : fitsB l o = 0) (ho : o.length < 2 ^ 30) : ∀ (rest pre : List (Int × Int)) (x : Int × Int), pre ++ x :: rest = o →
    Ev C11 noO (.code 8 false (loopOf Try.prog 8 1) (s8 (evRows l) O [(7, vi i), (8, .d (.sl 2 false (rowsP o))), (9, vi ((pre.length + 1 : Nat) : Int))])) (.code (.exit 2) (s8 (evRows l) O [(7, vi i)]))
  | [], pre, x, h => sw_n (evRows l) O (rowsP o) i _ (o.length : Nat) (by simp [rowsP]) (dge (by subst h; simp))
  | y :: rest, pre, x, h => by
    have ih := sw_loop O i hf ho rest (pre ++ [x]) y (by simpa using h)
    simp only [List.length_append, List.length_cons, List.length_nil, Nat.zero_add] at ih
    have hlen := congrArg List.length h
    simp only [List.length_append, List.length_cons] at hlen
    have hrl : (rowsP o).length = o.length := by simp [rowsP]
    have hne : (rowsP o).isEmpty = false := by
      cases o with
      | nil => simp at hlen
      | cons a r => rfl
    have hx := row_at (g := rowC) h
    have hy := row_at (g := rowC) (pre := pre ++ [x]) (e := y) (rest := rest) (all := o) (by simpa using h)
    have hy' : 0 ≤ (((pre.length + 1 : Nat)) : Int) ∧ (rowsP o)[(((pre.length + 1 : Nat)) : Int).toNat]? = some (rowC y) := by simp only [len_snoc] at hy; exact hy
    have hx' : 0 ≤ ((pre.length : Nat) : Int) ∧ (rowsP o)[((pre.length : Nat) : Int).toNat]? = some (rowC x) := hx
    have ox : o[pre.length]? = some x := by rw [← h]; simp
    have e1 : o.set pre.length y = pre ++ y :: y :: rest := by rw [← h, List.set_append_right _ _ (by omega)]; simp
    have oy : (pre ++ y :: y :: rest)[pre.length + 1]? = some y := by rw [List.getElem?_append_right (by omega)]; simp
    have e2 : (pre ++ y :: y :: rest).set (pre.length + 1) x = pre ++ y :: x :: rest := by rw [List.set_append_right _ _ (by omega)]; simp
    have st1 := pc_st (C := C11) rfl y ox
    rw [e1, ← pc_flat o] at st1
    have st2 := pc_st (C := C11) rfl x oy
    rw [e2] at st2
    have hfr := frz8 (pre ++ y :: x :: rest) (0 + (rowsP o).length) (by rw [hrl]; simp; omega)
    have hj : wr64 (((pre.length + 1 : Nat) : Int) - 1) = ((pre.length : Nat) : Int) := by
      rw [show ((pre.length + 1 : Nat) : Int) - 1 = ((pre.length : Nat) : Int) by omega]
      exact wrap_ok (by omega) (by omega)
    have hk : wr64 (((pre.length + 1 : Nat) : Int) + 1) = ((pre.length + 1 + 1 : Nat) : Int) := wrap_succ (by omega)
    have hbf := before_sl (l := l) x y hb
    have hpf := pfits_sl (l := l) (o := pre ++ y :: x :: rest) hb (by simp; omega)
    have hsw := fits_swap hr (A := pre) (B := rest) (x := x) (y := y) (by rw [h]; exact hf)
    rw [hsw] at hpf
    cases hbe : beforeB l x y with
    | true =>
      rw [hbe] at hbf hpf
      exact sw_t (evRows l) O (rowsP o) i _ _ _ _ (pre.length + 1) pre.length x y _ _ _ _ (by rw [hrl]) (dlt (by omega)) ⟨hne, by unfold fitsP; omega⟩ hj hy' ⟨rfl, by omega⟩ st1 hx' ⟨rfl, by omega⟩ st2 hfr hbf hpf hk ih
    | false =>
      rw [hbe] at hbf hpf
      exact sw_f (evRows l) O (rowsP o) i _ _ _ _ (pre.length + 1) pre.length x y _ _ _ _ (by rw [hrl]) (dlt (by omega)) ⟨hne, by unfold fitsP; omega⟩ hj hy' ⟨rfl, by omega⟩ st1 hx' ⟨rfl, by omega⟩ st2 hfr hbf hpf hk ih
theorem sz_loop (O : List (List (Int × Int))) (hO : ∀ o ∈ O, fitsB l o = 0 ∧ o.length < 2 ^ 30) (hl : O.length < 2 ^ 30) : ∀ (rest pre : List (List (Int × Int))), pre ++ rest = O →
    Ev C11 noO (.code 8 false (loopOf Try.prog 8 0) (s8 (evRows l) (rowsO O) [(7, vi (pre.length : Nat))])) (.code (.exit 0) { σ := slots 89 [(3, vb true), (5, .d (.sl 1 false (rowsO O)))], h := {} })
  | [], pre, h => sz_n (evRows l) (rowsO O) _ (O.length : Nat) (by simp [rowsO]) (dge (by subst h; simp))
  | o :: rest, pre, h => by
    have hlt := pre_lt h
    have hrow := row_at (g := fun o : List (Int × Int) => [dvO o]) h
    have ih := sz_loop O hO hl rest (pre ++ [o]) (pre_snoc h)
    simp only [len_snoc] at ih
    have hlen : (((rowsO O).length : Nat) : Int) = (O.length : Nat) := by simp [rowsO]
    obtain ⟨hf, ho⟩ := hO o (by rw [← h]; simp)
    have hw : wr64 ((pre.length : Nat) + 1) = ((pre.length + 1 : Nat) : Int) := wrap_succ (by omega)
    cases o with
    | nil =>
      have hp := pfits_nl (l := l) hb
      rw [hf] at hp
      exact sz_z (evRows l) (rowsO O) [] _ _ _ _ _ hlen (dlt hlt) hrow hp (sw_z _ _ _) hw ih
    | cons c r =>
      have hp := pfits_sl (l := l) (o := c :: r) hb (by omega)
      rw [hf] at hp
      exact sz_y (evRows l) (rowsO O) (rowsP (c :: r)) _ _ _ _ _ hlen (dlt hlt) hrow hp (sw_loop hr hb (rowsO O) _ hf ho r [] c rfl) hw ih
end
theorem every_len (m : MapE) (L : List (Int × Int)) : ∀ (n : Nat) (o x : List (Int × Int)), x ∈ everyL m L n o → x.length ≤ o.length + n
  | 0, o, x, hx => by
    simp only [everyL, selfL] at hx
    split at hx
    · simp at hx; subst hx; omega
    · simp at hx
  | n + 1, o, x, hx => by
    simp only [everyL] at hx
    rcases List.mem_append.1 hx with hx | hx
    · simp only [selfL] at hx
      split at hx
      · simp at hx; subst hx; omega
      · simp at hx
    · obtain ⟨c, _, hc⟩ := List.mem_flatMap.1 hx
      unfold tryC at hc
      split at hc
      · simp at hc
      · split at hc
        · simp at hc
        · have := every_len m L n _ x hc
          simp at this
          omega
theorem lawSwaps_sat : Sat C11 8 lawBytesSpec := by
  refine sat_of_ev (O := noO) hP11 (fun _ _ h => h.elim) hm0 fun ps rs hs => ?_
  unfold lawBytesSpec at hs
  split at hs
  · split at hs
    · rename_i p _ l hl
      simp only [Option.some.injEq] at hs
      subst hs
      obtain ⟨hU, hc⟩ := bytesOf_cases hl
      rcases hc with ⟨rfl, rfl⟩ | ⟨f, rfl⟩
      · exact ⟨_, _, _, sc_N, rfl⟩
      · have hmd := made_at (f := f) 10 hU (by decide)
        have hM : madeI 10 l = madeL (fun _ => 0) (l.take 10) := rfl
        generalize hL : l.take 10 = w at hM
        have hw : w.length ≤ 10 := by rw [← hL]; simp; omega
        by_cases hn : madeI 10 l = []
        · rw [hn] at hmd
          exact ⟨_, _, _, sc_e f _ hmd, rfl⟩
        · have e1 : madePV 7 (evRows (madeI 10 l)) = .one (.sl 7 false (evRows (madeI 10 l))) := by
            unfold madePV
            rw [if_neg (by simpa [evRows] using hn)]
          rw [e1] at hmd
          generalize hE : madeI 10 l = E at hmd hn hM
          have hEl : E.length = w.length := by rw [hM, made_len]
          have hEb : E.length < 2 ^ 40 := by omega
          have hEr : rightB E = true := by rw [hM]; exact made_right w (by omega)
          have hos : ordersSpec [.one (.sl 7 false (evRows E)), .one (di 40)] = some (ordersR E 40) := by
            simp only [ordersSpec, di, evtsOf_sl, hEb, if_true]
          unfold ordersR at hos
          rw [hEr] at hos
          simp only [Bool.true_eq_false, if_false] at hos
          rw [if_neg (by omega)] at hos
          by_cases h7 : (metL 0 E []).length > 7
          · rw [if_pos h7] at hos
            exact ⟨_, _, _, sc_l f _ _ hmd hos, rfl⟩
          · rw [if_neg h7] at hos
            have hne := ord_ne hEr (by omega)
            have hOn : (ordL E).take (40 : Int).toNat ≠ [] := by
              intro h
              have := congrArg List.length h
              have hp := List.length_pos_iff.2 hne
              rw [List.length_take, List.length_nil] at this
              have e40 : (40 : Int).toNat = 40 := rfl
              omega
            have hOf : ∀ o ∈ (ordL E).take (40 : Int).toNat, fitsB E o = 0 ∧ o.length < 2 ^ 30 := fun o ho => by
              have hm := List.mem_of_mem_take ho
              refine ⟨ord_fits hEr hm, ?_⟩
              have := every_len _ _ _ _ _ hm
              simp at this
              omega
            have hOl : ((ordL E).take (40 : Int).toNat).length < 2 ^ 30 := by simp; omega
            generalize (ordL E).take (40 : Int).toNat = O at hos hOn hOf hOl
            have e2 : madePV 1 (rowsO O) = .one (.sl 1 false (rowsO O)) := by
              unfold madePV
              rw [if_neg (by simpa [rowsO] using hOn)]
            rw [e2] at hos
            have hp := List.length_pos_iff.2 hOn
            exact ⟨_, _, _, sc_y f _ _ _ (O.length : Nat) hmd hos (sz_loop hEr hEb O hOf hOl O [] rfl) (by simp [rowsO]) (decide_eq_true (by omega)), rfl⟩
    · cases hs
  · cases hs

end Go.Ev

namespace Go.Proofs.Ytgpdnahmgacffaa
open Go Go.Ev Go.RowKit Go.ChangeShapes Go.WideShapes Go.ChangeAt

set_option maxRecDepth 100000 in
theorem swaps_lifted (os : Os) (started : os.Started) (H : Type) (enc : TypeId × Value → H) :
    ReturnsInHanded {} Try.checked os 8 .any (Rows.pastSwapsSpec.pre6 enc Try.prog Try.f8 Rows.pastSwapsRow.domain false) (Rows.pastSwapsSpec.post enc Try.prog Try.f8 false true false false) := by
  refine returnsInHanded_of_change (C := Try.checked) own started (by kernel_rfl) Try.func8
    (ChangeSpec.witness6 (enc := enc) (C := Try.checked) false ⟨#[], #[.slice none 0 0], []⟩ 8 (by kernel_rfl) (by kernel_rfl) (by kernel_rfl) (by kernel_rfl)) ?_
  intro W base args ds gs before hval0 hW hcnd0 _
  have hval : ∀ (j : Nat) t v, Try.f8.params[j]? = some t → args[j]? = some v → Value.okWide Try.prog W .any base t v := hval0
  have hW' := hW
  obtain ⟨p, q, hA0, hV, rfl, hfz, hnd⟩ := hW
  have hA : DataW.TrodAll enc Try.prog W 0 (fun _ => true) true Try.f8.params.toList args.toList ds p := hA0
  rw [Try.params8] at hA hval
  obtain ⟨v0, d0, rfl, rfl, h0⟩ := trodAll_one hA
  obtain ⟨rfl, rfl⟩ := trodVars_none hV
  clear hA0 hval0
  obtain ⟨q0, l, r0, e0⟩ := rp_bytes (hval 0 36 v0 rfl rfl) h0
  refine calls_true (C := C11) (f := Try.f8) (ps := [q0]) rfl (fun _ => rfl) lawSwaps_sat ?_ rfl hW' rfl rfl rfl rfl ⟨rfl, fun i p v hp hv => ?_⟩ (by simp only [lawBytesSpec, e0])
  · have h : (Try.f8.params.toList.all fun t => decide (t < Try.prog.types.size)) = true := by kernel_rfl
    intro t ht
    rw [List.all_eq_true] at h
    simpa using h t ht
  · match i, hp, hv with
    | 0, hp, hv => simp at hp hv; subst hp; subst hv; exact r0
    | j + 1, hp, hv => simp at hp

theorem swaps_holds : Rows.PastSwapsSaid :=
  OpenClaim.holds_of_wide 8 Try.f8 rfl rfl rfl rfl rfl rfl rfl ⟨rfl, rfl, rfl, rfl, rfl⟩ rfl rfl rfl rfl rfl (by kernel_rfl) Try.func8 (by kernel_rfl)
    (of_decide_eq_true (by kernel_rfl)) (by unfold Func.isWrapper; first | (rw [if_pos (by decide +kernel)]; kernel_rfl) | (rw [if_neg (by decide +kernel)]; exact ⟨rfl, rfl⟩))
    (fun os started H enc _ => swaps_lifted os started H enc)

end Go.Proofs.Ytgpdnahmgacffaa
