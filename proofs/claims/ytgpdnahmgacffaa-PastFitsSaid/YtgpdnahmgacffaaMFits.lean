/- PastFits: for every input it answers true, and each argument reads as it did. No condition. -/
import Derived.Test.YtgpdnahmgacffaaMG
import Derived.Test.YtgpdnahmgacffaaMF
set_option linter.unusedVariables false
set_option linter.unusedSimpArgs false

namespace Go.Ev
open Go

/-! ### the document's Fits -/
def rf1 (l : List Evt) : List (Int × Int) → List (Int × Int) → Bool
  | _, [] => true
  | pre, c :: r => if placeI c false l < 0 then false else if pre.contains c then false else rf1 l (pre ++ [c]) r
def rf2 (order : List (Int × Int)) : List S4 → Bool
  | [] => true
  | s :: r => if s.2.2.2 ≥ 0 ∧ order.contains (s.1, s.2.1) = false then false else rf2 order r
def rf3i (l : List Evt) (c : Int × Int) : List (Int × Int) → Bool
  | [] => true
  | d :: r => if refBeforeB l c d then false else rf3i l c r
def rf3 (l : List Evt) : List (Int × Int) → List (Int × Int) → Bool
  | _, [] => true
  | pre, c :: r => if rf3i l c pre then rf3 l (pre ++ [c]) r else false
def refFitsB (l : List Evt) (order : List (Int × Int)) : Int :=
  if refRightB l = false then 4 else if rf1 l [] order = false then 1 else if rf2 order (refSpansI l) = false then 8 else if rf3 l [] order = false then 9 else 0

theorem keys_set (c v : Int × Int) : ∀ (m : MapE), (m.map (·.1)).Nodup → ((setKV c v m).map (·.1)).Nodup ∧ ∀ x, x ∈ (setKV c v m).map (·.1) → x = c ∨ x ∈ m.map (·.1)
  | [], _ => by simp [setKV]
  | e :: r, h => by
    rw [List.map_cons, List.nodup_cons] at h
    obtain ⟨h1, h2⟩ := h
    obtain ⟨h3, h4⟩ := keys_set c v r h2
    unfold setKV
    split
    · rename_i hc
      subst hc
      simp only [List.map_cons, List.nodup_cons, List.mem_cons]
      exact ⟨⟨h1, h2⟩, fun x hx => by rcases hx with h | h; exact .inl h; exact .inr (.inr h)⟩
    · rename_i hc
      simp only [List.map_cons, List.nodup_cons, List.mem_cons]
      refine ⟨⟨fun hm => ?_, h3⟩, fun x hx => ?_⟩
      · rcases h4 _ hm with h | h
        · exact hc h.symm
        · exact h1 h
      · rcases hx with h | h
        · exact .inr (.inl h)
        · rcases h4 x h with h | h
          · exact .inl h
          · exact .inr (.inr h)
theorem keys_met : ∀ (l : List Evt) (i : Nat) (m : MapE), (m.map (·.1)).Nodup → ((metL i l m).map (·.1)).Nodup
  | [], i, m, h => h
  | e :: l, i, m, h => by
    unfold metL
    refine keys_met l (i + 1) _ ?_
    split
    · exact (keys_set _ _ m h).1
    · exact (keys_set _ _ m h).1
theorem getKV_mem (c v : Int × Int) : ∀ (m : MapE), (m.map (·.1)).Nodup → (getKV c m = some v ↔ (c, v) ∈ m)
  | [], _ => by simp [getKV]
  | e :: r, h => by
    rw [List.map_cons, List.nodup_cons] at h
    simp only [getKV, List.mem_cons]
    split
    · rename_i hc
      subst hc
      constructor
      · intro he
        simp only [Option.some.injEq] at he
        exact .inl (by rw [← he])
      · rintro (he | he)
        · rw [show v = e.2 from congrArg Prod.snd he]
        · exact absurd (List.mem_map.2 ⟨_, he, rfl⟩) h.1
    · rename_i hc
      rw [getKV_mem c v r h.2]
      constructor
      · exact .inr
      · rintro (he | he)
        · exact absurd (by rw [← he]) hc
        · exact he

section
variable {l : List Evt} {m : MapE} (hm : Met l m)
include hm
theorem get_some (c : Int × Int) : (getKV c m).isSome = true ↔ 0 ≤ placeI c false l := by
  rw [hm c]
  rcases placeI_eq c false l with ⟨e1, e2⟩ | ⟨k, e1, e2⟩
  · rw [e1, e2]; simp
  · rw [e1, e2]; simp
theorem get_val (c : Int × Int) (h : 0 ≤ placeI c false l) : (getKV c m).getD (0, 0) = (placeI c false l, placeI c true l) := by
  rw [hm c]
  rcases placeI_eq c false l with ⟨e1, e2⟩ | ⟨k, e1, e2⟩
  · omega
  · rw [e1, e2]; rfl
theorem fits1_eq : ∀ (order had : List (Int × Int)), (fits1 m had order).1 = rf1 l had order ∧ (rf1 l had order = true → (fits1 m had order).2 = had ++ order ∧ ∀ c ∈ order, 0 ≤ placeI c false l)
  | [], had => by simp [fits1, rf1]
  | c :: r, had => by
    obtain ⟨h1, h2⟩ := fits1_eq r (had ++ [c])
    have hg := get_some hm c
    unfold fits1 rf1
    by_cases hp : placeI c false l < 0
    · have : (getKV c m).isSome = false := by
        cases e : (getKV c m).isSome with
        | false => rfl
        | true => have := hg.1 e; omega
      rw [if_pos hp, this]
      simp
    · rw [if_neg hp, hg.2 (by omega)]
      cases hc : had.contains c with
      | true => simp
      | false =>
        simp only [Bool.not_false, Bool.and_self, if_true, Bool.false_eq_true, if_false]
        refine ⟨h1, fun h => ?_⟩
        obtain ⟨h3, h4⟩ := h2 h
        refine ⟨by rw [h3]; simp, fun d hd => ?_⟩
        rcases List.mem_cons.1 hd with rfl | hd
        · omega
        · exact h4 d hd
end

theorem rf2_iff (order : List (Int × Int)) : ∀ s : List S4, rf2 order s = false ↔ ∃ x ∈ s, x.2.2.2 ≥ 0 ∧ order.contains (x.1, x.2.1) = false
  | [] => by simp [rf2]
  | x :: s => by
    unfold rf2
    by_cases h : x.2.2.2 ≥ 0 ∧ order.contains (x.1, x.2.1) = false
    · rw [if_pos h]
      simp only [true_iff]
      exact ⟨x, by simp, h⟩
    · rw [if_neg h, rf2_iff order s]
      constructor
      · rintro ⟨y, hy, h2⟩; exact ⟨y, by simp [hy], h2⟩
      · rintro ⟨y, hy, h2⟩
        rcases List.mem_cons.1 hy with rfl | hy
        · exact absurd h2 h
        · exact ⟨y, hy, h2⟩
theorem mem_refSpans (all : List Evt) (x : S4) : ∀ (l : List Evt) (i : Nat), x ∈ refSpansL all i l → ∃ e ∈ l, e.re = false ∧ x.1 = e.th ∧ x.2.1 = e.ca ∧ x.2.2.2 = placeI (e.th, e.ca) true all
  | [], i, h => by simp [refSpansL] at h
  | e :: l, i, h => by
    unfold refSpansL at h
    cases hr : e.re with
    | true =>
      simp only [hr, if_true] at h
      obtain ⟨e', h1, h2⟩ := mem_refSpans all x l (i + 1) h
      exact ⟨e', by simp [h1], h2⟩
    | false =>
      simp only [hr, Bool.false_eq_true, if_false] at h
      rcases List.mem_cons.1 h with rfl | h
      · exact ⟨e, by simp, hr, rfl, rfl, rfl⟩
      · obtain ⟨e', h1, h2⟩ := mem_refSpans all x l (i + 1) h
        exact ⟨e', by simp [h1], h2⟩
theorem refSpans_mem (all : List Evt) {e : Evt} (hr : e.re = false) : ∀ (l : List Evt) (i : Nat), e ∈ l → ∃ x ∈ refSpansL all i l, x.1 = e.th ∧ x.2.1 = e.ca ∧ x.2.2.2 = placeI (e.th, e.ca) true all
  | y :: l, i, h => by
    unfold refSpansL
    rcases List.mem_cons.1 h with rfl | h
    · simp only [hr, Bool.false_eq_true, if_false]
      exact ⟨_, List.mem_cons_self .., rfl, rfl, rfl⟩
    · obtain ⟨x, h1, h2⟩ := refSpans_mem all hr l (i + 1) h
      split
      · exact ⟨x, h1, h2⟩
      · exact ⟨x, by simp [h1], h2⟩

theorem any_eq {l : List Evt} (hr : rightB l = true) (order : List (Int × Int)) : (metL 0 l []).any (isBad order) = !rf2 order (refSpansI l) := by
  obtain ⟨hm, -⟩ := met_of hr
  have hk := keys_met l 0 [] (by simp)
  have hsp : refSpansI l = refSpansL l 0 l := by unfold refSpansI; rw [← right_eq, hr]; rfl
  rw [hsp]
  cases h : rf2 order (refSpansL l 0 l) with
  | false =>
    obtain ⟨x, hx, h1, h2⟩ := (rf2_iff order _).1 h
    obtain ⟨e, he, hre, q1, q2, q3⟩ := mem_refSpans l x l 0 hx
    obtain ⟨b, hb⟩ := placeF_mem (e.th, e.ca) false (e := e) (by simp [hits, hre]) l 0 he
    have hg := hm (e.th, e.ca)
    rw [hb] at hg
    have := (getKV_mem _ _ _ hk).1 hg
    simp only [Bool.not_false, List.any_eq_true]
    refine ⟨_, this, ?_⟩
    rw [q1, q2] at h2
    simp only [isBad, h2, Bool.not_false, Bool.and_true, decide_eq_true_eq]
    omega
  | true =>
    simp only [Bool.not_true, List.any_eq_false]
    intro x hx
    obtain ⟨c, v⟩ := x
    have hg := (getKV_mem c v _ hk).2 hx
    rw [hm c] at hg
    cases hb : placeF c false 0 l with
    | none => rw [hb] at hg; cases hg
    | some b =>
      rw [hb] at hg
      simp only [Option.some.injEq] at hg
      subst hg
      obtain ⟨_, _, e, he, hh⟩ := placeF_some _ _ _ _ _ hb
      simp only [hits, decide_eq_true_eq] at hh
      obtain ⟨g1, g2, g3⟩ := hh
      obtain ⟨x, hx, q1, q2, q3⟩ := refSpans_mem l g3 l 0 (List.mem_of_getElem? he)
      have hc : (e.th, e.ca) = c := Prod.ext g1 g2
      rw [hc] at q3
      simp only [isBad, Bool.and_eq_true, decide_eq_true_eq, Bool.not_eq_true', not_and]
      intro h1 h2
      have : rf2 order (refSpansL l 0 l) = false := (rf2_iff order _).2 ⟨x, hx, by omega, by rw [q1, q2, hc]; exact h2⟩
      rw [h] at this; cases this

theorem rf3i_iff (l : List Evt) (c : Int × Int) : ∀ pre : List (Int × Int), rf3i l c pre = false ↔ ∃ d ∈ pre, refBeforeB l c d = true
  | [] => by simp [rf3i]
  | d :: r => by
    unfold rf3i
    cases h : refBeforeB l c d with
    | true => simp only [if_true, true_iff]; exact ⟨d, by simp, h⟩
    | false =>
      simp only [Bool.false_eq_true, if_false]
      rw [rf3i_iff l c r]
      constructor
      · rintro ⟨y, hy, h2⟩; exact ⟨y, by simp [hy], h2⟩
      · rintro ⟨y, hy, h2⟩
        rcases List.mem_cons.1 hy with rfl | hy
        · rw [h] at h2; cases h2
        · exact ⟨y, hy, h2⟩

theorem late_eq {l : List Evt} {m : MapE} (hr : rightB l = true) (hm : Met l m) : ∀ (order pre : List (Int × Int)) (last : Int), (∀ c ∈ order, 0 ≤ placeI c false l) → (∀ c ∈ pre, 0 ≤ placeI c false l) →
    (∀ x : Int, 0 ≤ x → (x < last ↔ ∃ d ∈ pre, x < placeI d false l)) → late m last order = !rf3 l pre order
  | [], pre, last, _, _, _ => rfl
  | c :: r, pre, last, ho, hp, hx => by
    have hc := ho c (by simp)
    unfold late rf3
    rw [get_val hm c hc]
    simp only
    have hb : ∀ d, 0 ≤ placeI c true l → (refBeforeB l c d = true ↔ placeI c true l < placeI d false l) := by
      intro d h0
      unfold refBeforeB
      rw [← right_eq, hr]
      simp only [Bool.true_and, Bool.and_eq_true, decide_eq_true_eq, gt_iff_lt, ge_iff_le]
      omega
    by_cases h : placeI c true l ≥ 0 ∧ placeI c true l < last
    · rw [if_pos h]
      obtain ⟨d, hd, h2⟩ := (hx _ h.1).1 h.2
      have : rf3i l c pre = false := (rf3i_iff l c pre).2 ⟨d, hd, (hb d h.1).2 h2⟩
      rw [this]; rfl
    · rw [if_neg h]
      have : rf3i l c pre = true := by
        cases e : rf3i l c pre with
        | true => rfl
        | false =>
          obtain ⟨d, hd, h2⟩ := (rf3i_iff l c pre).1 e
          have h0 : 0 ≤ placeI c true l := by
            unfold refBeforeB at h2
            simp only [Bool.and_eq_true, decide_eq_true_eq] at h2
            omega
          exact absurd ⟨h0, (hx _ h0).2 ⟨d, hd, (hb d h0).1 h2⟩⟩ h
      rw [this]
      simp only [if_true]
      refine late_eq hr hm r (pre ++ [c]) _ (fun d hd => ho d (by simp [hd])) (fun d hd => ?_) (fun x h0 => ?_)
      · rcases List.mem_append.1 hd with hd | hd
        · exact hp d hd
        · simp only [List.mem_singleton] at hd; subst hd; exact hc
      · have := hx x h0
        constructor
        · intro h1
          by_cases h2 : x < last
          · obtain ⟨d, hd, h3⟩ := this.1 h2
            exact ⟨d, by simp [hd], h3⟩
          · refine ⟨c, by simp, ?_⟩
            split at h1 <;> omega
        · rintro ⟨d, hd, h3⟩
          rcases List.mem_append.1 hd with hd | hd
          · have := this.2 ⟨d, hd, h3⟩
            split <;> omega
          · simp only [List.mem_singleton] at hd
            subst hd
            split <;> omega

theorem fits_eq (l : List Evt) (order : List (Int × Int)) : fitsB l order = refFitsB l order := by
  unfold fitsB refFitsB
  rw [← right_eq]
  cases hr : rightB l with
  | false => simp
  | true =>
    simp only [if_true, Bool.true_eq_false, if_false]
    obtain ⟨hm, -⟩ := met_of hr
    obtain ⟨h1, h2⟩ := fits1_eq hm order []
    unfold fitsI
    rw [h1]
    cases e1 : rf1 l [] order with
    | false => simp
    | true =>
      obtain ⟨h3, h4⟩ := h2 e1
      simp only [Bool.true_eq_false, if_false]
      rw [h3, List.nil_append, any_eq hr, late_eq hr hm order [] (-1) h4 (fun c hc => by cases hc) (fun x h0 => by simp; omega)]
      cases rf2 order (refSpansI l) <;> cases rf3 l [] order <;> simp

end Go.Ev

namespace Go.Ev
open Go Go.RowKit Go.Proofs

theorem rsa_yy (f : Bool) (r : List (List DV)) (fo : Bool) (ro : List (List DV)) (i : Int) (i16 : Int) (c : Int × Int) (m : Int) (h1 : ↑(List.length ro) = i16) (h2 : decide (i < i16) = true) (h3 : 0 ≤ i ∧ ro[Int.toNat i]? = some [di c.1, di c.2]) (h4 : placeSpec [PV.one (DV.sl 7 f r), PV.agg [di c.1, di c.2], PV.one (db false)] = some [PV.one (di m)]) (h5 : decide (m < 0) = true) :
    Ev C5 noO (Task.code 22 false (loopOf Try.prog 22 0) { σ := slots 89 [(0, AV.d (DV.sl 7 f r)), (1, AV.d (DV.sl 2 fo ro)), (5, vi i)], h := { } }) (.code (X.ret) { σ := slots 89 [(4, vi 1)], h := { } }) :=
  symM_ev (n := 60) (sc := [(site 22 16, Dec.int i16), (site 22 17, Dec.b true), (site 22 23, Dec.row (rowP c)), (site 22 25, Dec.prim [pint m]), (site 22 26, Dec.b true)]) (keep := [4]) (sc' := []) (by kernel_rfl) (AllP_cons h1 (AllP_cons h2 (AllP_cons h3 (AllP_cons h4 (AllP_cons h5 AllP_nil)))))
theorem rsa_ynt1 (f : Bool) (r : List (List DV)) (fo : Bool) (ro : List (List DV)) (i : Int) (i16 : Int) (c : Int × Int) (m : Int) (n : Nat) (k : Nat) (fc : Bool) (rc : List (List DV)) (c2 : Int × Int) (h1 : ↑(List.length ro) = i16) (h2 : decide (i < i16) = true) (h3 : 0 ≤ i ∧ ro[Int.toNat i]? = some [di c.1, di c.2]) (h4 : placeSpec [PV.one (DV.sl 7 f r), PV.agg [di c.1, di c.2], PV.one (db false)] = some [PV.one (di m)]) (h5 : decide (m < 0) = false) (h6 : cutGoal 2 (AV.d (DV.sl 2 fo ro)) none (some i) none 0 n k (AV.d (DV.sl 2 fc rc))) (h7 : 0 ≤ i ∧ ro[Int.toNat i]? = some [di c2.1, di c2.2]) (h8 : inSpec [PV.one (DV.sl 2 fc rc), PV.agg [di c2.1, di c2.2]] = some [PV.one (db true)]) :
    Ev C5 noO (Task.code 22 false (loopOf Try.prog 22 0) { σ := slots 89 [(0, AV.d (DV.sl 7 f r)), (1, AV.d (DV.sl 2 fo ro)), (5, vi i)], h := { } }) (.code (X.ret) { σ := slots 89 [(4, vi 1)], h := { } }) :=
  symM_ev (n := 60) (sc := [(site 22 16, Dec.int i16), (site 22 17, Dec.b true), (site 22 23, Dec.row (rowP c)), (site 22 25, Dec.prim [pint m]), (site 22 26, Dec.b false), (site 22 30, Dec.cut 0 n k (AV.d (DV.sl 2 fc rc))), (site 22 33, Dec.row (rowP c2)), (site 22 35, Dec.prim [pbool true])]) (keep := [4]) (sc' := []) (by kernel_rfl) (AllP_cons h1 (AllP_cons h2 (AllP_cons h3 (AllP_cons h4 (AllP_cons h5 (AllP_cons h6 (AllP_cons h7 (AllP_cons h8 AllP_nil))))))))
theorem rsa_ynt2L (f : Bool) (r : List (List DV)) (fo : Bool) (ro : List (List DV)) (i : Int) (i16 : Int) (c : Int × Int) (m : Int) (n : Nat) (k : Nat) (fc : Bool) (rc : List (List DV)) (c2 : Int × Int) (i19 : Int) (x : X) (s : St) (h1 : ↑(List.length ro) = i16) (h2 : decide (i < i16) = true) (h3 : 0 ≤ i ∧ ro[Int.toNat i]? = some [di c.1, di c.2]) (h4 : placeSpec [PV.one (DV.sl 7 f r), PV.agg [di c.1, di c.2], PV.one (db false)] = some [PV.one (di m)]) (h5 : decide (m < 0) = false) (h6 : cutGoal 2 (AV.d (DV.sl 2 fo ro)) none (some i) none 0 n k (AV.d (DV.sl 2 fc rc))) (h7 : 0 ≤ i ∧ ro[Int.toNat i]? = some [di c2.1, di c2.2]) (h8 : inSpec [PV.one (DV.sl 2 fc rc), PV.agg [di c2.1, di c2.2]] = some [PV.one (db false)]) (h9 : wr64 (i + 1) = i19) (h10 : Ev C5 noO (Task.code 22 false (loopOf Try.prog 22 0) { σ := slots 89 [(0, AV.d (DV.sl 7 f r)), (1, AV.d (DV.sl 2 fo ro)), (5, vi i19)], h := { } }) (Res.code x s)) :
    Ev C5 noO (Task.code 22 false (loopOf Try.prog 22 0) { σ := slots 89 [(0, AV.d (DV.sl 7 f r)), (1, AV.d (DV.sl 2 fo ro)), (5, vi i)], h := { } }) (.code (x) s) :=
  sym_ev 60 _ [(site 22 16, Dec.int i16), (site 22 17, Dec.b true), (site 22 23, Dec.row (rowP c)), (site 22 25, Dec.prim [pint m]), (site 22 26, Dec.b false), (site 22 30, Dec.cut 0 n k (AV.d (DV.sl 2 fc rc))), (site 22 33, Dec.row (rowP c2)), (site 22 35, Dec.prim [pbool false]), (site 22 19, Dec.int i19), (site 22 8001, Dec.loop [0, 1, 5] x s)] _ [] _ (by kernel_rfl) (AllP_cons h1 (AllP_cons h2 (AllP_cons h3 (AllP_cons h4 (AllP_cons h5 (AllP_cons h6 (AllP_cons h7 (AllP_cons h8 (AllP_cons h9 (AllP_cons h10 AllP_nil))))))))))
theorem rsa_n (f : Bool) (r : List (List DV)) (fo : Bool) (ro : List (List DV)) (i : Int) (i16 : Int) (h1 : ↑(List.length ro) = i16) (h2 : decide (i < i16) = false) :
    Ev C5 noO (Task.code 22 false (loopOf Try.prog 22 0) { σ := slots 89 [(0, AV.d (DV.sl 7 f r)), (1, AV.d (DV.sl 2 fo ro)), (5, vi i)], h := { } }) (.code (X.exit 0) { σ := slots 89 [(0, AV.d (DV.sl 7 f r)), (1, AV.d (DV.sl 2 fo ro))], h := { } }) :=
  symM_ev (n := 60) (sc := [(site 22 16, Dec.int i16), (site 22 17, Dec.b false)]) (keep := [0, 1]) (sc' := []) (by kernel_rfl) (AllP_cons h1 (AllP_cons h2 AllP_nil))
theorem rsd_yt1 (f : Bool) (r : List (List DV)) (fo : Bool) (ro : List (List DV)) (i : Int) (j : Int) (c : Int × Int) (d : Int × Int) (h1 : decide (j < i) = true) (h2 : 0 ≤ i ∧ ro[Int.toNat i]? = some [di c.1, di c.2]) (h3 : 0 ≤ j ∧ ro[Int.toNat j]? = some [di d.1, di d.2]) (h4 : refBeforeSpec [PV.one (DV.sl 7 f r), PV.agg [di c.1, di c.2], PV.agg [di d.1, di d.2]] = some [PV.one (db true)]) :
    Ev C5 noO (Task.code 22 false (loopOf Try.prog 22 3) { σ := slots 89 [(0, AV.d (DV.sl 7 f r)), (1, AV.d (DV.sl 2 fo ro)), (9, vi i), (10, vi j)], h := { } }) (.code (X.ret) { σ := slots 89 [(4, vi 9)], h := { } }) :=
  symM_ev (n := 60) (sc := [(site 22 76, Dec.b true), (site 22 82, Dec.row (rowP c)), (site 22 86, Dec.row (rowP d)), (site 22 88, Dec.prim [pbool true])]) (keep := [4]) (sc' := []) (by kernel_rfl) (AllP_cons h1 (AllP_cons h2 (AllP_cons h3 (AllP_cons h4 AllP_nil))))
theorem rsd_yt2L (f : Bool) (r : List (List DV)) (fo : Bool) (ro : List (List DV)) (i : Int) (j : Int) (c : Int × Int) (d : Int × Int) (i78 : Int) (x : X) (s : St) (h1 : decide (j < i) = true) (h2 : 0 ≤ i ∧ ro[Int.toNat i]? = some [di c.1, di c.2]) (h3 : 0 ≤ j ∧ ro[Int.toNat j]? = some [di d.1, di d.2]) (h4 : refBeforeSpec [PV.one (DV.sl 7 f r), PV.agg [di c.1, di c.2], PV.agg [di d.1, di d.2]] = some [PV.one (db false)]) (h5 : wr64 (j + 1) = i78) (h6 : Ev C5 noO (Task.code 22 false (loopOf Try.prog 22 3) { σ := slots 89 [(0, AV.d (DV.sl 7 f r)), (1, AV.d (DV.sl 2 fo ro)), (9, vi i), (10, vi i78)], h := { } }) (Res.code x s)) :
    Ev C5 noO (Task.code 22 false (loopOf Try.prog 22 3) { σ := slots 89 [(0, AV.d (DV.sl 7 f r)), (1, AV.d (DV.sl 2 fo ro)), (9, vi i), (10, vi j)], h := { } }) (.code (x) s) :=
  sym_ev 60 _ [(site 22 76, Dec.b true), (site 22 82, Dec.row (rowP c)), (site 22 86, Dec.row (rowP d)), (site 22 88, Dec.prim [pbool false]), (site 22 78, Dec.int i78), (site 22 8001, Dec.loop [0, 1, 9, 10] x s)] _ [] _ (by kernel_rfl) (AllP_cons h1 (AllP_cons h2 (AllP_cons h3 (AllP_cons h4 (AllP_cons h5 (AllP_cons h6 AllP_nil))))))
theorem rsd_n (f : Bool) (r : List (List DV)) (fo : Bool) (ro : List (List DV)) (i : Int) (j : Int) (h1 : decide (j < i) = false) :
    Ev C5 noO (Task.code 22 false (loopOf Try.prog 22 3) { σ := slots 89 [(0, AV.d (DV.sl 7 f r)), (1, AV.d (DV.sl 2 fo ro)), (9, vi i), (10, vi j)], h := { } }) (.code (X.exit 6) { σ := slots 89 [(0, AV.d (DV.sl 7 f r)), (1, AV.d (DV.sl 2 fo ro)), (9, vi i)], h := { } }) :=
  symM_ev (n := 60) (sc := [(site 22 76, Dec.b false)]) (keep := [0, 1, 9]) (sc' := []) (by kernel_rfl) (AllP_cons h1 AllP_nil)
theorem rsc_yl1L (f : Bool) (r : List (List DV)) (fo : Bool) (ro : List (List DV)) (i : Int) (i70 : Int) (i73 : Int) (x : X) (s : St) (h1 : ↑(List.length ro) = i70) (h2 : decide (i < i70) = true) (h3 : Ev C5 noO (Task.code 22 false (loopOf Try.prog 22 3) { σ := slots 89 [(0, AV.d (DV.sl 7 f r)), (1, AV.d (DV.sl 2 fo ro)), (9, vi i), (10, vi 0)], h := { } }) (Res.code (X.exit 6) { σ := slots 89 [(0, AV.d (DV.sl 7 f r)), (1, AV.d (DV.sl 2 fo ro)), (9, vi i)], h := { } })) (h4 : wr64 (i + 1) = i73) (h5 : Ev C5 noO (Task.code 22 false (loopOf Try.prog 22 2) { σ := slots 89 [(0, AV.d (DV.sl 7 f r)), (1, AV.d (DV.sl 2 fo ro)), (9, vi i73)], h := { } }) (Res.code x s)) :
    Ev C5 noO (Task.code 22 false (loopOf Try.prog 22 2) { σ := slots 89 [(0, AV.d (DV.sl 7 f r)), (1, AV.d (DV.sl 2 fo ro)), (9, vi i)], h := { } }) (.code (x) s) :=
  sym_ev 60 _ [(site 22 70, Dec.int i70), (site 22 71, Dec.b true), (site 22 8001, Dec.loop [0, 1, 9, 10] (X.exit 6) { σ := slots 89 [(0, AV.d (DV.sl 7 f r)), (1, AV.d (DV.sl 2 fo ro)), (9, vi i)], h := { } }), (site 22 73, Dec.int i73), (site 22 8001, Dec.loop [0, 1, 9] x s)] _ [] _ (by kernel_rfl) (AllP_cons h1 (AllP_cons h2 (AllP_cons h3 (AllP_cons h4 (AllP_cons h5 AllP_nil)))))
theorem rsc_yl2 (f : Bool) (r : List (List DV)) (fo : Bool) (ro : List (List DV)) (i : Int) (i70 : Int) (h1 : ↑(List.length ro) = i70) (h2 : decide (i < i70) = true) (h3 : Ev C5 noO (Task.code 22 false (loopOf Try.prog 22 3) { σ := slots 89 [(0, AV.d (DV.sl 7 f r)), (1, AV.d (DV.sl 2 fo ro)), (9, vi i), (10, vi 0)], h := { } }) (Res.code X.ret { σ := slots 89 [(4, vi 9)], h := { } })) :
    Ev C5 noO (Task.code 22 false (loopOf Try.prog 22 2) { σ := slots 89 [(0, AV.d (DV.sl 7 f r)), (1, AV.d (DV.sl 2 fo ro)), (9, vi i)], h := { } }) (.code (X.ret) { σ := slots 89 [(4, vi 9)], h := { } }) :=
  symM_ev (n := 60) (sc := [(site 22 70, Dec.int i70), (site 22 71, Dec.b true), (site 22 8001, Dec.loop [0, 1, 9, 10] X.ret { σ := slots 89 [(4, vi 9)], h := { } })]) (keep := [4]) (sc' := []) (by kernel_rfl) (AllP_cons h1 (AllP_cons h2 (AllP_cons h3 AllP_nil)))
theorem rsc_n (f : Bool) (r : List (List DV)) (fo : Bool) (ro : List (List DV)) (i : Int) (i70 : Int) (h1 : ↑(List.length ro) = i70) (h2 : decide (i < i70) = false) :
    Ev C5 noO (Task.code 22 false (loopOf Try.prog 22 2) { σ := slots 89 [(0, AV.d (DV.sl 7 f r)), (1, AV.d (DV.sl 2 fo ro)), (9, vi i)], h := { } }) (.code (X.exit 4) { σ := slots 89 [], h := { } }) :=
  symM_ev (n := 60) (sc := [(site 22 70, Dec.int i70), (site 22 71, Dec.b false)]) (keep := []) (sc' := []) (by kernel_rfl) (AllP_cons h1 (AllP_cons h2 AllP_nil))
theorem rna_y (fo : Bool) (ro : List (List DV)) (i : Int) (i16 : Int) (c : Int × Int) (h1 : ↑(List.length ro) = i16) (h2 : decide (i < i16) = true) (h3 : 0 ≤ i ∧ ro[Int.toNat i]? = some [di c.1, di c.2]) :
    Ev C5 noO (Task.code 22 false (loopOf Try.prog 22 0) { σ := slots 89 [(0, AV.d (DV.v (Value.slice none 0 0))), (1, AV.d (DV.sl 2 fo ro)), (5, vi i)], h := { } }) (.code (X.ret) { σ := slots 89 [(4, vi 1)], h := { } }) :=
  symM_ev (n := 60) (sc := [(site 22 16, Dec.int i16), (site 22 17, Dec.b true), (site 22 23, Dec.row (rowP c))]) (keep := [4]) (sc' := []) (by kernel_rfl) (AllP_cons h1 (AllP_cons h2 (AllP_cons h3 AllP_nil)))
theorem rna_n (fo : Bool) (ro : List (List DV)) (i : Int) (i16 : Int) (h1 : ↑(List.length ro) = i16) (h2 : decide (i < i16) = false) :
    Ev C5 noO (Task.code 22 false (loopOf Try.prog 22 0) { σ := slots 89 [(0, AV.d (DV.v (Value.slice none 0 0))), (1, AV.d (DV.sl 2 fo ro)), (5, vi i)], h := { } }) (.code (X.exit 0) { σ := slots 89 [(0, AV.d (DV.v (Value.slice none 0 0))), (1, AV.d (DV.sl 2 fo ro))], h := { } }) :=
  symM_ev (n := 60) (sc := [(site 22 16, Dec.int i16), (site 22 17, Dec.b false)]) (keep := [0, 1]) (sc' := []) (by kernel_rfl) (AllP_cons h1 (AllP_cons h2 AllP_nil))
theorem rnd_yL (fo : Bool) (ro : List (List DV)) (i : Int) (j : Int) (c : Int × Int) (d : Int × Int) (i78 : Int) (x : X) (s : St) (h1 : decide (j < i) = true) (h2 : 0 ≤ i ∧ ro[Int.toNat i]? = some [di c.1, di c.2]) (h3 : 0 ≤ j ∧ ro[Int.toNat j]? = some [di d.1, di d.2]) (h4 : wr64 (j + 1) = i78) (h5 : Ev C5 noO (Task.code 22 false (loopOf Try.prog 22 3) { σ := slots 89 [(0, AV.d (DV.v (Value.slice none 0 0))), (1, AV.d (DV.sl 2 fo ro)), (9, vi i), (10, vi i78)], h := { } }) (Res.code x s)) :
    Ev C5 noO (Task.code 22 false (loopOf Try.prog 22 3) { σ := slots 89 [(0, AV.d (DV.v (Value.slice none 0 0))), (1, AV.d (DV.sl 2 fo ro)), (9, vi i), (10, vi j)], h := { } }) (.code (x) s) :=
  sym_ev 60 _ [(site 22 76, Dec.b true), (site 22 82, Dec.row (rowP c)), (site 22 86, Dec.row (rowP d)), (site 22 78, Dec.int i78), (site 22 8001, Dec.loop [0, 1, 9, 10] x s)] _ [] _ (by kernel_rfl) (AllP_cons h1 (AllP_cons h2 (AllP_cons h3 (AllP_cons h4 (AllP_cons h5 AllP_nil)))))
theorem rnd_n (fo : Bool) (ro : List (List DV)) (i : Int) (j : Int) (h1 : decide (j < i) = false) :
    Ev C5 noO (Task.code 22 false (loopOf Try.prog 22 3) { σ := slots 89 [(0, AV.d (DV.v (Value.slice none 0 0))), (1, AV.d (DV.sl 2 fo ro)), (9, vi i), (10, vi j)], h := { } }) (.code (X.exit 6) { σ := slots 89 [(0, AV.d (DV.v (Value.slice none 0 0))), (1, AV.d (DV.sl 2 fo ro)), (9, vi i)], h := { } }) :=
  symM_ev (n := 60) (sc := [(site 22 76, Dec.b false)]) (keep := [0, 1, 9]) (sc' := []) (by kernel_rfl) (AllP_cons h1 AllP_nil)
theorem rnc_yl1L (fo : Bool) (ro : List (List DV)) (i : Int) (i70 : Int) (i73 : Int) (x : X) (s : St) (h1 : ↑(List.length ro) = i70) (h2 : decide (i < i70) = true) (h3 : Ev C5 noO (Task.code 22 false (loopOf Try.prog 22 3) { σ := slots 89 [(0, AV.d (DV.v (Value.slice none 0 0))), (1, AV.d (DV.sl 2 fo ro)), (9, vi i), (10, vi 0)], h := { } }) (Res.code (X.exit 6) { σ := slots 89 [(0, AV.d (DV.v (Value.slice none 0 0))), (1, AV.d (DV.sl 2 fo ro)), (9, vi i)], h := { } })) (h4 : wr64 (i + 1) = i73) (h5 : Ev C5 noO (Task.code 22 false (loopOf Try.prog 22 2) { σ := slots 89 [(0, AV.d (DV.v (Value.slice none 0 0))), (1, AV.d (DV.sl 2 fo ro)), (9, vi i73)], h := { } }) (Res.code x s)) :
    Ev C5 noO (Task.code 22 false (loopOf Try.prog 22 2) { σ := slots 89 [(0, AV.d (DV.v (Value.slice none 0 0))), (1, AV.d (DV.sl 2 fo ro)), (9, vi i)], h := { } }) (.code (x) s) :=
  sym_ev 60 _ [(site 22 70, Dec.int i70), (site 22 71, Dec.b true), (site 22 8001, Dec.loop [0, 1, 9, 10] (X.exit 6) { σ := slots 89 [(0, AV.d (DV.v (Value.slice none 0 0))), (1, AV.d (DV.sl 2 fo ro)), (9, vi i)], h := { } }), (site 22 73, Dec.int i73), (site 22 8001, Dec.loop [0, 1, 9] x s)] _ [] _ (by kernel_rfl) (AllP_cons h1 (AllP_cons h2 (AllP_cons h3 (AllP_cons h4 (AllP_cons h5 AllP_nil)))))
theorem rnc_yl2 (fo : Bool) (ro : List (List DV)) (i : Int) (i70 : Int) (h1 : ↑(List.length ro) = i70) (h2 : decide (i < i70) = true) (h3 : Ev C5 noO (Task.code 22 false (loopOf Try.prog 22 3) { σ := slots 89 [(0, AV.d (DV.v (Value.slice none 0 0))), (1, AV.d (DV.sl 2 fo ro)), (9, vi i), (10, vi 0)], h := { } }) (Res.code X.ret { σ := slots 89 [(4, vi 9)], h := { } })) :
    Ev C5 noO (Task.code 22 false (loopOf Try.prog 22 2) { σ := slots 89 [(0, AV.d (DV.v (Value.slice none 0 0))), (1, AV.d (DV.sl 2 fo ro)), (9, vi i)], h := { } }) (.code (X.ret) { σ := slots 89 [(4, vi 9)], h := { } }) :=
  symM_ev (n := 60) (sc := [(site 22 70, Dec.int i70), (site 22 71, Dec.b true), (site 22 8001, Dec.loop [0, 1, 9, 10] X.ret { σ := slots 89 [(4, vi 9)], h := { } })]) (keep := [4]) (sc' := []) (by kernel_rfl) (AllP_cons h1 (AllP_cons h2 (AllP_cons h3 AllP_nil)))
theorem rnc_n (fo : Bool) (ro : List (List DV)) (i : Int) (i70 : Int) (h1 : ↑(List.length ro) = i70) (h2 : decide (i < i70) = false) :
    Ev C5 noO (Task.code 22 false (loopOf Try.prog 22 2) { σ := slots 89 [(0, AV.d (DV.v (Value.slice none 0 0))), (1, AV.d (DV.sl 2 fo ro)), (9, vi i)], h := { } }) (.code (X.exit 4) { σ := slots 89 [], h := { } }) :=
  symM_ev (n := 60) (sc := [(site 22 70, Dec.int i70), (site 22 71, Dec.b false)]) (keep := []) (sc' := []) (by kernel_rfl) (AllP_cons h1 (AllP_cons h2 AllP_nil))
theorem rssb_yt1yL (f : Bool) (r : List (List DV)) (fo : Bool) (ro : List (List DV)) (gs : Bool) (rs : List (List DV)) (i : Int) (i41 : Int) (u : S4) (u2 : S4) (u3 : S4) (i44 : Int) (x : X) (s : St) (h1 : ↑(List.length rs) = i41) (h2 : decide (i < i41) = true) (h3 : 0 ≤ i ∧ rs[Int.toNat i]? = some [di u.1, di u.snd.1, di u.snd.snd.1, di u.snd.snd.2]) (h4 : 0 ≤ i ∧ rs[Int.toNat i]? = some [di u2.1, di u2.snd.1, di u2.snd.snd.1, di u2.snd.snd.2]) (h5 : inSpec [PV.one (DV.sl 2 fo ro), PV.agg [di u.1, di u2.snd.1]] = some [PV.one (db true)]) (h6 : 0 ≤ i ∧ rs[Int.toNat i]? = some [di u3.1, di u3.snd.1, di u3.snd.snd.1, di u3.snd.snd.2]) (h7 : decide (u3.snd.2.snd ≥ 0) = true) (h8 : wr64 (i + 1) = i44) (h9 : Ev C5 noO (Task.code 22 false (loopOf Try.prog 22 1) { σ := slots 89 [(0, AV.d (DV.sl 7 f r)), (1, AV.d (DV.sl 2 fo ro)), (6, AV.d (DV.sl 4 gs rs)), (7, vi i44)], h := { } }) (Res.code x s)) :
    Ev C5 noO (Task.code 22 false (loopOf Try.prog 22 1) { σ := slots 89 [(0, AV.d (DV.sl 7 f r)), (1, AV.d (DV.sl 2 fo ro)), (6, AV.d (DV.sl 4 gs rs)), (7, vi i)], h := { } }) (.code (x) s) :=
  sym_ev 60 _ [(site 22 41, Dec.int i41), (site 22 42, Dec.b true), (site 22 48, Dec.row (rowS u)), (site 22 53, Dec.row (rowS u2)), (site 22 57, Dec.prim [pbool true]), (site 22 60, Dec.row (rowS u3)), (site 22 63, Dec.b true), (site 22 44, Dec.int i44), (site 22 8001, Dec.loop [0, 1, 6, 7] x s)] _ [] _ (by kernel_rfl) (AllP_cons h1 (AllP_cons h2 (AllP_cons h3 (AllP_cons h4 (AllP_cons h5 (AllP_cons h6 (AllP_cons h7 (AllP_cons h8 (AllP_cons h9 AllP_nil)))))))))
theorem rssb_yt1nL (f : Bool) (r : List (List DV)) (fo : Bool) (ro : List (List DV)) (gs : Bool) (rs : List (List DV)) (i : Int) (i41 : Int) (u : S4) (u2 : S4) (u3 : S4) (i44 : Int) (x : X) (s : St) (h1 : ↑(List.length rs) = i41) (h2 : decide (i < i41) = true) (h3 : 0 ≤ i ∧ rs[Int.toNat i]? = some [di u.1, di u.snd.1, di u.snd.snd.1, di u.snd.snd.2]) (h4 : 0 ≤ i ∧ rs[Int.toNat i]? = some [di u2.1, di u2.snd.1, di u2.snd.snd.1, di u2.snd.snd.2]) (h5 : inSpec [PV.one (DV.sl 2 fo ro), PV.agg [di u.1, di u2.snd.1]] = some [PV.one (db true)]) (h6 : 0 ≤ i ∧ rs[Int.toNat i]? = some [di u3.1, di u3.snd.1, di u3.snd.snd.1, di u3.snd.snd.2]) (h7 : decide (u3.snd.2.snd ≥ 0) = false) (h8 : wr64 (i + 1) = i44) (h9 : Ev C5 noO (Task.code 22 false (loopOf Try.prog 22 1) { σ := slots 89 [(0, AV.d (DV.sl 7 f r)), (1, AV.d (DV.sl 2 fo ro)), (6, AV.d (DV.sl 4 gs rs)), (7, vi i44)], h := { } }) (Res.code x s)) :
    Ev C5 noO (Task.code 22 false (loopOf Try.prog 22 1) { σ := slots 89 [(0, AV.d (DV.sl 7 f r)), (1, AV.d (DV.sl 2 fo ro)), (6, AV.d (DV.sl 4 gs rs)), (7, vi i)], h := { } }) (.code (x) s) :=
  sym_ev 60 _ [(site 22 41, Dec.int i41), (site 22 42, Dec.b true), (site 22 48, Dec.row (rowS u)), (site 22 53, Dec.row (rowS u2)), (site 22 57, Dec.prim [pbool true]), (site 22 60, Dec.row (rowS u3)), (site 22 63, Dec.b false), (site 22 44, Dec.int i44), (site 22 8001, Dec.loop [0, 1, 6, 7] x s)] _ [] _ (by kernel_rfl) (AllP_cons h1 (AllP_cons h2 (AllP_cons h3 (AllP_cons h4 (AllP_cons h5 (AllP_cons h6 (AllP_cons h7 (AllP_cons h8 (AllP_cons h9 AllP_nil)))))))))
theorem rssb_yt2y (f : Bool) (r : List (List DV)) (fo : Bool) (ro : List (List DV)) (gs : Bool) (rs : List (List DV)) (i : Int) (i41 : Int) (u : S4) (u2 : S4) (u3 : S4) (h1 : ↑(List.length rs) = i41) (h2 : decide (i < i41) = true) (h3 : 0 ≤ i ∧ rs[Int.toNat i]? = some [di u.1, di u.snd.1, di u.snd.snd.1, di u.snd.snd.2]) (h4 : 0 ≤ i ∧ rs[Int.toNat i]? = some [di u2.1, di u2.snd.1, di u2.snd.snd.1, di u2.snd.snd.2]) (h5 : inSpec [PV.one (DV.sl 2 fo ro), PV.agg [di u.1, di u2.snd.1]] = some [PV.one (db false)]) (h6 : 0 ≤ i ∧ rs[Int.toNat i]? = some [di u3.1, di u3.snd.1, di u3.snd.snd.1, di u3.snd.snd.2]) (h7 : decide (u3.snd.2.snd ≥ 0) = true) :
    Ev C5 noO (Task.code 22 false (loopOf Try.prog 22 1) { σ := slots 89 [(0, AV.d (DV.sl 7 f r)), (1, AV.d (DV.sl 2 fo ro)), (6, AV.d (DV.sl 4 gs rs)), (7, vi i)], h := { } }) (.code (X.ret) { σ := slots 89 [(4, vi 8)], h := { } }) :=
  symM_ev (n := 60) (sc := [(site 22 41, Dec.int i41), (site 22 42, Dec.b true), (site 22 48, Dec.row (rowS u)), (site 22 53, Dec.row (rowS u2)), (site 22 57, Dec.prim [pbool false]), (site 22 60, Dec.row (rowS u3)), (site 22 63, Dec.b true)]) (keep := [4]) (sc' := []) (by kernel_rfl) (AllP_cons h1 (AllP_cons h2 (AllP_cons h3 (AllP_cons h4 (AllP_cons h5 (AllP_cons h6 (AllP_cons h7 AllP_nil)))))))
theorem rssb_yt2nL (f : Bool) (r : List (List DV)) (fo : Bool) (ro : List (List DV)) (gs : Bool) (rs : List (List DV)) (i : Int) (i41 : Int) (u : S4) (u2 : S4) (u3 : S4) (i44 : Int) (x : X) (s : St) (h1 : ↑(List.length rs) = i41) (h2 : decide (i < i41) = true) (h3 : 0 ≤ i ∧ rs[Int.toNat i]? = some [di u.1, di u.snd.1, di u.snd.snd.1, di u.snd.snd.2]) (h4 : 0 ≤ i ∧ rs[Int.toNat i]? = some [di u2.1, di u2.snd.1, di u2.snd.snd.1, di u2.snd.snd.2]) (h5 : inSpec [PV.one (DV.sl 2 fo ro), PV.agg [di u.1, di u2.snd.1]] = some [PV.one (db false)]) (h6 : 0 ≤ i ∧ rs[Int.toNat i]? = some [di u3.1, di u3.snd.1, di u3.snd.snd.1, di u3.snd.snd.2]) (h7 : decide (u3.snd.2.snd ≥ 0) = false) (h8 : wr64 (i + 1) = i44) (h9 : Ev C5 noO (Task.code 22 false (loopOf Try.prog 22 1) { σ := slots 89 [(0, AV.d (DV.sl 7 f r)), (1, AV.d (DV.sl 2 fo ro)), (6, AV.d (DV.sl 4 gs rs)), (7, vi i44)], h := { } }) (Res.code x s)) :
    Ev C5 noO (Task.code 22 false (loopOf Try.prog 22 1) { σ := slots 89 [(0, AV.d (DV.sl 7 f r)), (1, AV.d (DV.sl 2 fo ro)), (6, AV.d (DV.sl 4 gs rs)), (7, vi i)], h := { } }) (.code (x) s) :=
  sym_ev 60 _ [(site 22 41, Dec.int i41), (site 22 42, Dec.b true), (site 22 48, Dec.row (rowS u)), (site 22 53, Dec.row (rowS u2)), (site 22 57, Dec.prim [pbool false]), (site 22 60, Dec.row (rowS u3)), (site 22 63, Dec.b false), (site 22 44, Dec.int i44), (site 22 8001, Dec.loop [0, 1, 6, 7] x s)] _ [] _ (by kernel_rfl) (AllP_cons h1 (AllP_cons h2 (AllP_cons h3 (AllP_cons h4 (AllP_cons h5 (AllP_cons h6 (AllP_cons h7 (AllP_cons h8 (AllP_cons h9 AllP_nil)))))))))
theorem rssb_n (f : Bool) (r : List (List DV)) (fo : Bool) (ro : List (List DV)) (gs : Bool) (rs : List (List DV)) (i : Int) (i41 : Int) (h1 : ↑(List.length rs) = i41) (h2 : decide (i < i41) = false) :
    Ev C5 noO (Task.code 22 false (loopOf Try.prog 22 1) { σ := slots 89 [(0, AV.d (DV.sl 7 f r)), (1, AV.d (DV.sl 2 fo ro)), (6, AV.d (DV.sl 4 gs rs)), (7, vi i)], h := { } }) (.code (X.exit 2) { σ := slots 89 [(0, AV.d (DV.sl 7 f r)), (1, AV.d (DV.sl 2 fo ro))], h := { } }) :=
  symM_ev (n := 60) (sc := [(site 22 41, Dec.int i41), (site 22 42, Dec.b false)]) (keep := [0, 1]) (sc' := []) (by kernel_rfl) (AllP_cons h1 (AllP_cons h2 AllP_nil))
theorem rsse_ (f : Bool) (r : List (List DV)) (fo : Bool) (ro : List (List DV)) :
    Ev C5 noO (Task.code 22 false (loopOf Try.prog 22 1) { σ := slots 89 [(0, AV.d (DV.sl 7 f r)), (1, AV.d (DV.sl 2 fo ro)), (6, AV.d (DV.v (Value.slice none 0 0))), (7, vi 0)], h := { } }) (.code (X.exit 2) { σ := slots 89 [(0, AV.d (DV.sl 7 f r)), (1, AV.d (DV.sl 2 fo ro))], h := { } }) :=
  symM_ev (n := 60) (sc := []) (keep := [0, 1]) (sc' := []) (by kernel_rfl) AllP_nil
theorem rss_t1l1t1l1l1 (f : Bool) (r : List (List DV)) (fo : Bool) (ro : List (List DV)) (rs : List (List DV)) (h1 : refRightSpec [PV.one (DV.sl 7 f r)] = some [PV.one (db true)]) (h2 : Ev C5 noO (Task.code 22 false (loopOf Try.prog 22 0) { σ := slots 89 [(0, AV.d (DV.sl 7 f r)), (1, AV.d (DV.sl 2 fo ro)), (5, vi 0)], h := { } }) (Res.code (X.exit 0) { σ := slots 89 [(0, AV.d (DV.sl 7 f r)), (1, AV.d (DV.sl 2 fo ro))], h := { } })) (h3 : refSpansSpec [PV.one (DV.sl 7 f r)] = some [PV.one (DV.v (Value.slice none 0 0))]) (h4 : Ev C5 noO (Task.code 22 false (loopOf Try.prog 22 1) { σ := slots 89 [(0, AV.d (DV.sl 7 f r)), (1, AV.d (DV.sl 2 fo ro)), (6, AV.d (DV.v (Value.slice none 0 0))), (7, vi 0)], h := { } }) (Res.code (X.exit 2) { σ := slots 89 [(0, AV.d (DV.sl 7 f r)), (1, AV.d (DV.sl 2 fo ro))], h := { } })) (h5 : Ev C5 noO (Task.code 22 false (loopOf Try.prog 22 2) { σ := slots 89 [(0, AV.d (DV.sl 7 f r)), (1, AV.d (DV.sl 2 fo ro)), (9, vi 0)], h := { } }) (Res.code (X.exit 4) { σ := slots 89 [], h := { } })) :
    Ev C5 noO (Task.call 22 [AV.d (DV.sl 7 f r), AV.d (DV.sl 2 fo ro)] { }) (.val (vi 0) { }) :=
  sym_ev 80 _ [(site 22 12, Dec.prim [pbool true]), (site 22 8001, Dec.loop [0, 1, 5] (X.exit 0) { σ := slots 89 [(0, AV.d (DV.sl 7 f r)), (1, AV.d (DV.sl 2 fo ro))], h := { } }), (site 22 38, Dec.prim [nilPV]), (site 22 8001, Dec.loop [0, 1, 6, 7] (X.exit 2) { σ := slots 89 [(0, AV.d (DV.sl 7 f r)), (1, AV.d (DV.sl 2 fo ro))], h := { } }), (site 22 8001, Dec.loop [0, 1, 9] (X.exit 4) { σ := slots 89 [], h := { } })] _ [] _ (by kernel_rfl) (AllP_cons h1 (AllP_cons h2 (AllP_cons h3 (AllP_cons h4 (AllP_cons h5 AllP_nil)))))
theorem rss_t1l1t1l1l2 (f : Bool) (r : List (List DV)) (fo : Bool) (ro : List (List DV)) (rs : List (List DV)) (h1 : refRightSpec [PV.one (DV.sl 7 f r)] = some [PV.one (db true)]) (h2 : Ev C5 noO (Task.code 22 false (loopOf Try.prog 22 0) { σ := slots 89 [(0, AV.d (DV.sl 7 f r)), (1, AV.d (DV.sl 2 fo ro)), (5, vi 0)], h := { } }) (Res.code (X.exit 0) { σ := slots 89 [(0, AV.d (DV.sl 7 f r)), (1, AV.d (DV.sl 2 fo ro))], h := { } })) (h3 : refSpansSpec [PV.one (DV.sl 7 f r)] = some [PV.one (DV.v (Value.slice none 0 0))]) (h4 : Ev C5 noO (Task.code 22 false (loopOf Try.prog 22 1) { σ := slots 89 [(0, AV.d (DV.sl 7 f r)), (1, AV.d (DV.sl 2 fo ro)), (6, AV.d (DV.v (Value.slice none 0 0))), (7, vi 0)], h := { } }) (Res.code (X.exit 2) { σ := slots 89 [(0, AV.d (DV.sl 7 f r)), (1, AV.d (DV.sl 2 fo ro))], h := { } })) (h5 : Ev C5 noO (Task.code 22 false (loopOf Try.prog 22 2) { σ := slots 89 [(0, AV.d (DV.sl 7 f r)), (1, AV.d (DV.sl 2 fo ro)), (9, vi 0)], h := { } }) (Res.code X.ret { σ := slots 89 [(4, vi 9)], h := { } })) :
    Ev C5 noO (Task.call 22 [AV.d (DV.sl 7 f r), AV.d (DV.sl 2 fo ro)] { }) (.val (vi 9) { }) :=
  sym_ev 80 _ [(site 22 12, Dec.prim [pbool true]), (site 22 8001, Dec.loop [0, 1, 5] (X.exit 0) { σ := slots 89 [(0, AV.d (DV.sl 7 f r)), (1, AV.d (DV.sl 2 fo ro))], h := { } }), (site 22 38, Dec.prim [nilPV]), (site 22 8001, Dec.loop [0, 1, 6, 7] (X.exit 2) { σ := slots 89 [(0, AV.d (DV.sl 7 f r)), (1, AV.d (DV.sl 2 fo ro))], h := { } }), (site 22 8001, Dec.loop [0, 1, 9] X.ret { σ := slots 89 [(4, vi 9)], h := { } })] _ [] _ (by kernel_rfl) (AllP_cons h1 (AllP_cons h2 (AllP_cons h3 (AllP_cons h4 (AllP_cons h5 AllP_nil)))))
theorem rss_t1l1t1l2 (f : Bool) (r : List (List DV)) (fo : Bool) (ro : List (List DV)) (rs : List (List DV)) (h1 : refRightSpec [PV.one (DV.sl 7 f r)] = some [PV.one (db true)]) (h2 : Ev C5 noO (Task.code 22 false (loopOf Try.prog 22 0) { σ := slots 89 [(0, AV.d (DV.sl 7 f r)), (1, AV.d (DV.sl 2 fo ro)), (5, vi 0)], h := { } }) (Res.code (X.exit 0) { σ := slots 89 [(0, AV.d (DV.sl 7 f r)), (1, AV.d (DV.sl 2 fo ro))], h := { } })) (h3 : refSpansSpec [PV.one (DV.sl 7 f r)] = some [PV.one (DV.v (Value.slice none 0 0))]) (h4 : Ev C5 noO (Task.code 22 false (loopOf Try.prog 22 1) { σ := slots 89 [(0, AV.d (DV.sl 7 f r)), (1, AV.d (DV.sl 2 fo ro)), (6, AV.d (DV.v (Value.slice none 0 0))), (7, vi 0)], h := { } }) (Res.code X.ret { σ := slots 89 [(4, vi 8)], h := { } })) :
    Ev C5 noO (Task.call 22 [AV.d (DV.sl 7 f r), AV.d (DV.sl 2 fo ro)] { }) (.val (vi 8) { }) :=
  sym_ev 80 _ [(site 22 12, Dec.prim [pbool true]), (site 22 8001, Dec.loop [0, 1, 5] (X.exit 0) { σ := slots 89 [(0, AV.d (DV.sl 7 f r)), (1, AV.d (DV.sl 2 fo ro))], h := { } }), (site 22 38, Dec.prim [nilPV]), (site 22 8001, Dec.loop [0, 1, 6, 7] X.ret { σ := slots 89 [(4, vi 8)], h := { } })] _ [] _ (by kernel_rfl) (AllP_cons h1 (AllP_cons h2 (AllP_cons h3 (AllP_cons h4 AllP_nil))))
theorem rss_t1l1t2l1l1 (f : Bool) (r : List (List DV)) (fo : Bool) (ro : List (List DV)) (rs : List (List DV)) (h1 : refRightSpec [PV.one (DV.sl 7 f r)] = some [PV.one (db true)]) (h2 : Ev C5 noO (Task.code 22 false (loopOf Try.prog 22 0) { σ := slots 89 [(0, AV.d (DV.sl 7 f r)), (1, AV.d (DV.sl 2 fo ro)), (5, vi 0)], h := { } }) (Res.code (X.exit 0) { σ := slots 89 [(0, AV.d (DV.sl 7 f r)), (1, AV.d (DV.sl 2 fo ro))], h := { } })) (h3 : refSpansSpec [PV.one (DV.sl 7 f r)] = some [PV.one (DV.sl 4 false rs)]) (h4 : Ev C5 noO (Task.code 22 false (loopOf Try.prog 22 1) { σ := slots 89 [(0, AV.d (DV.sl 7 f r)), (1, AV.d (DV.sl 2 fo ro)), (6, AV.d (DV.sl 4 false rs)), (7, vi 0)], h := { } }) (Res.code (X.exit 2) { σ := slots 89 [(0, AV.d (DV.sl 7 f r)), (1, AV.d (DV.sl 2 fo ro))], h := { } })) (h5 : Ev C5 noO (Task.code 22 false (loopOf Try.prog 22 2) { σ := slots 89 [(0, AV.d (DV.sl 7 f r)), (1, AV.d (DV.sl 2 fo ro)), (9, vi 0)], h := { } }) (Res.code (X.exit 4) { σ := slots 89 [], h := { } })) :
    Ev C5 noO (Task.call 22 [AV.d (DV.sl 7 f r), AV.d (DV.sl 2 fo ro)] { }) (.val (vi 0) { }) :=
  sym_ev 80 _ [(site 22 12, Dec.prim [pbool true]), (site 22 8001, Dec.loop [0, 1, 5] (X.exit 0) { σ := slots 89 [(0, AV.d (DV.sl 7 f r)), (1, AV.d (DV.sl 2 fo ro))], h := { } }), (site 22 38, Dec.prim [PV.one (DV.sl 4 false rs)]), (site 22 8001, Dec.loop [0, 1, 6, 7] (X.exit 2) { σ := slots 89 [(0, AV.d (DV.sl 7 f r)), (1, AV.d (DV.sl 2 fo ro))], h := { } }), (site 22 8001, Dec.loop [0, 1, 9] (X.exit 4) { σ := slots 89 [], h := { } })] _ [] _ (by kernel_rfl) (AllP_cons h1 (AllP_cons h2 (AllP_cons h3 (AllP_cons h4 (AllP_cons h5 AllP_nil)))))
theorem rss_t1l1t2l1l2 (f : Bool) (r : List (List DV)) (fo : Bool) (ro : List (List DV)) (rs : List (List DV)) (h1 : refRightSpec [PV.one (DV.sl 7 f r)] = some [PV.one (db true)]) (h2 : Ev C5 noO (Task.code 22 false (loopOf Try.prog 22 0) { σ := slots 89 [(0, AV.d (DV.sl 7 f r)), (1, AV.d (DV.sl 2 fo ro)), (5, vi 0)], h := { } }) (Res.code (X.exit 0) { σ := slots 89 [(0, AV.d (DV.sl 7 f r)), (1, AV.d (DV.sl 2 fo ro))], h := { } })) (h3 : refSpansSpec [PV.one (DV.sl 7 f r)] = some [PV.one (DV.sl 4 false rs)]) (h4 : Ev C5 noO (Task.code 22 false (loopOf Try.prog 22 1) { σ := slots 89 [(0, AV.d (DV.sl 7 f r)), (1, AV.d (DV.sl 2 fo ro)), (6, AV.d (DV.sl 4 false rs)), (7, vi 0)], h := { } }) (Res.code (X.exit 2) { σ := slots 89 [(0, AV.d (DV.sl 7 f r)), (1, AV.d (DV.sl 2 fo ro))], h := { } })) (h5 : Ev C5 noO (Task.code 22 false (loopOf Try.prog 22 2) { σ := slots 89 [(0, AV.d (DV.sl 7 f r)), (1, AV.d (DV.sl 2 fo ro)), (9, vi 0)], h := { } }) (Res.code X.ret { σ := slots 89 [(4, vi 9)], h := { } })) :
    Ev C5 noO (Task.call 22 [AV.d (DV.sl 7 f r), AV.d (DV.sl 2 fo ro)] { }) (.val (vi 9) { }) :=
  sym_ev 80 _ [(site 22 12, Dec.prim [pbool true]), (site 22 8001, Dec.loop [0, 1, 5] (X.exit 0) { σ := slots 89 [(0, AV.d (DV.sl 7 f r)), (1, AV.d (DV.sl 2 fo ro))], h := { } }), (site 22 38, Dec.prim [PV.one (DV.sl 4 false rs)]), (site 22 8001, Dec.loop [0, 1, 6, 7] (X.exit 2) { σ := slots 89 [(0, AV.d (DV.sl 7 f r)), (1, AV.d (DV.sl 2 fo ro))], h := { } }), (site 22 8001, Dec.loop [0, 1, 9] X.ret { σ := slots 89 [(4, vi 9)], h := { } })] _ [] _ (by kernel_rfl) (AllP_cons h1 (AllP_cons h2 (AllP_cons h3 (AllP_cons h4 (AllP_cons h5 AllP_nil)))))
theorem rss_t1l1t2l2 (f : Bool) (r : List (List DV)) (fo : Bool) (ro : List (List DV)) (rs : List (List DV)) (h1 : refRightSpec [PV.one (DV.sl 7 f r)] = some [PV.one (db true)]) (h2 : Ev C5 noO (Task.code 22 false (loopOf Try.prog 22 0) { σ := slots 89 [(0, AV.d (DV.sl 7 f r)), (1, AV.d (DV.sl 2 fo ro)), (5, vi 0)], h := { } }) (Res.code (X.exit 0) { σ := slots 89 [(0, AV.d (DV.sl 7 f r)), (1, AV.d (DV.sl 2 fo ro))], h := { } })) (h3 : refSpansSpec [PV.one (DV.sl 7 f r)] = some [PV.one (DV.sl 4 false rs)]) (h4 : Ev C5 noO (Task.code 22 false (loopOf Try.prog 22 1) { σ := slots 89 [(0, AV.d (DV.sl 7 f r)), (1, AV.d (DV.sl 2 fo ro)), (6, AV.d (DV.sl 4 false rs)), (7, vi 0)], h := { } }) (Res.code X.ret { σ := slots 89 [(4, vi 8)], h := { } })) :
    Ev C5 noO (Task.call 22 [AV.d (DV.sl 7 f r), AV.d (DV.sl 2 fo ro)] { }) (.val (vi 8) { }) :=
  sym_ev 80 _ [(site 22 12, Dec.prim [pbool true]), (site 22 8001, Dec.loop [0, 1, 5] (X.exit 0) { σ := slots 89 [(0, AV.d (DV.sl 7 f r)), (1, AV.d (DV.sl 2 fo ro))], h := { } }), (site 22 38, Dec.prim [PV.one (DV.sl 4 false rs)]), (site 22 8001, Dec.loop [0, 1, 6, 7] X.ret { σ := slots 89 [(4, vi 8)], h := { } })] _ [] _ (by kernel_rfl) (AllP_cons h1 (AllP_cons h2 (AllP_cons h3 (AllP_cons h4 AllP_nil))))
theorem rss_t1l2 (f : Bool) (r : List (List DV)) (fo : Bool) (ro : List (List DV)) (rs : List (List DV)) (h1 : refRightSpec [PV.one (DV.sl 7 f r)] = some [PV.one (db true)]) (h2 : Ev C5 noO (Task.code 22 false (loopOf Try.prog 22 0) { σ := slots 89 [(0, AV.d (DV.sl 7 f r)), (1, AV.d (DV.sl 2 fo ro)), (5, vi 0)], h := { } }) (Res.code X.ret { σ := slots 89 [(4, vi 1)], h := { } })) :
    Ev C5 noO (Task.call 22 [AV.d (DV.sl 7 f r), AV.d (DV.sl 2 fo ro)] { }) (.val (vi 1) { }) :=
  sym_ev 80 _ [(site 22 12, Dec.prim [pbool true]), (site 22 8001, Dec.loop [0, 1, 5] X.ret { σ := slots 89 [(4, vi 1)], h := { } })] _ [] _ (by kernel_rfl) (AllP_cons h1 (AllP_cons h2 AllP_nil))
theorem rss_t2 (f : Bool) (r : List (List DV)) (fo : Bool) (ro : List (List DV)) (rs : List (List DV)) (h1 : refRightSpec [PV.one (DV.sl 7 f r)] = some [PV.one (db false)]) :
    Ev C5 noO (Task.call 22 [AV.d (DV.sl 7 f r), AV.d (DV.sl 2 fo ro)] { }) (.val (vi 4) { }) :=
  sym_ev 80 _ [(site 22 12, Dec.prim [pbool false])] _ [] _ (by kernel_rfl) (AllP_cons h1 AllP_nil)
theorem rsnb_yy (f : Bool) (r : List (List DV)) (gs : Bool) (rs : List (List DV)) (i : Int) (i41 : Int) (u : S4) (u2 : S4) (u3 : S4) (h1 : ↑(List.length rs) = i41) (h2 : decide (i < i41) = true) (h3 : 0 ≤ i ∧ rs[Int.toNat i]? = some [di u.1, di u.snd.1, di u.snd.snd.1, di u.snd.snd.2]) (h4 : 0 ≤ i ∧ rs[Int.toNat i]? = some [di u2.1, di u2.snd.1, di u2.snd.snd.1, di u2.snd.snd.2]) (h5 : 0 ≤ i ∧ rs[Int.toNat i]? = some [di u3.1, di u3.snd.1, di u3.snd.snd.1, di u3.snd.snd.2]) (h6 : decide (u3.snd.2.snd ≥ 0) = true) :
    Ev C5 noO (Task.code 22 false (loopOf Try.prog 22 1) { σ := slots 89 [(0, AV.d (DV.sl 7 f r)), (1, AV.d (DV.v (Value.slice none 0 0))), (6, AV.d (DV.sl 4 gs rs)), (7, vi i)], h := { } }) (.code (X.ret) { σ := slots 89 [(4, vi 8)], h := { } }) :=
  symM_ev (n := 60) (sc := [(site 22 41, Dec.int i41), (site 22 42, Dec.b true), (site 22 48, Dec.row (rowS u)), (site 22 53, Dec.row (rowS u2)), (site 22 60, Dec.row (rowS u3)), (site 22 63, Dec.b true)]) (keep := [4]) (sc' := []) (by kernel_rfl) (AllP_cons h1 (AllP_cons h2 (AllP_cons h3 (AllP_cons h4 (AllP_cons h5 (AllP_cons h6 AllP_nil))))))
theorem rsnb_ynL (f : Bool) (r : List (List DV)) (gs : Bool) (rs : List (List DV)) (i : Int) (i41 : Int) (u : S4) (u2 : S4) (u3 : S4) (i44 : Int) (x : X) (s : St) (h1 : ↑(List.length rs) = i41) (h2 : decide (i < i41) = true) (h3 : 0 ≤ i ∧ rs[Int.toNat i]? = some [di u.1, di u.snd.1, di u.snd.snd.1, di u.snd.snd.2]) (h4 : 0 ≤ i ∧ rs[Int.toNat i]? = some [di u2.1, di u2.snd.1, di u2.snd.snd.1, di u2.snd.snd.2]) (h5 : 0 ≤ i ∧ rs[Int.toNat i]? = some [di u3.1, di u3.snd.1, di u3.snd.snd.1, di u3.snd.snd.2]) (h6 : decide (u3.snd.2.snd ≥ 0) = false) (h7 : wr64 (i + 1) = i44) (h8 : Ev C5 noO (Task.code 22 false (loopOf Try.prog 22 1) { σ := slots 89 [(0, AV.d (DV.sl 7 f r)), (1, AV.d (DV.v (Value.slice none 0 0))), (6, AV.d (DV.sl 4 gs rs)), (7, vi i44)], h := { } }) (Res.code x s)) :
    Ev C5 noO (Task.code 22 false (loopOf Try.prog 22 1) { σ := slots 89 [(0, AV.d (DV.sl 7 f r)), (1, AV.d (DV.v (Value.slice none 0 0))), (6, AV.d (DV.sl 4 gs rs)), (7, vi i)], h := { } }) (.code (x) s) :=
  sym_ev 60 _ [(site 22 41, Dec.int i41), (site 22 42, Dec.b true), (site 22 48, Dec.row (rowS u)), (site 22 53, Dec.row (rowS u2)), (site 22 60, Dec.row (rowS u3)), (site 22 63, Dec.b false), (site 22 44, Dec.int i44), (site 22 8001, Dec.loop [0, 1, 6, 7] x s)] _ [] _ (by kernel_rfl) (AllP_cons h1 (AllP_cons h2 (AllP_cons h3 (AllP_cons h4 (AllP_cons h5 (AllP_cons h6 (AllP_cons h7 (AllP_cons h8 AllP_nil))))))))
theorem rsnb_n (f : Bool) (r : List (List DV)) (gs : Bool) (rs : List (List DV)) (i : Int) (i41 : Int) (h1 : ↑(List.length rs) = i41) (h2 : decide (i < i41) = false) :
    Ev C5 noO (Task.code 22 false (loopOf Try.prog 22 1) { σ := slots 89 [(0, AV.d (DV.sl 7 f r)), (1, AV.d (DV.v (Value.slice none 0 0))), (6, AV.d (DV.sl 4 gs rs)), (7, vi i)], h := { } }) (.code (X.exit 2) { σ := slots 89 [(0, AV.d (DV.sl 7 f r)), (1, AV.d (DV.v (Value.slice none 0 0)))], h := { } }) :=
  symM_ev (n := 60) (sc := [(site 22 41, Dec.int i41), (site 22 42, Dec.b false)]) (keep := [0, 1]) (sc' := []) (by kernel_rfl) (AllP_cons h1 (AllP_cons h2 AllP_nil))
theorem rsne_ (f : Bool) (r : List (List DV)) :
    Ev C5 noO (Task.code 22 false (loopOf Try.prog 22 1) { σ := slots 89 [(0, AV.d (DV.sl 7 f r)), (1, AV.d (DV.v (Value.slice none 0 0))), (6, AV.d (DV.v (Value.slice none 0 0))), (7, vi 0)], h := { } }) (.code (X.exit 2) { σ := slots 89 [(0, AV.d (DV.sl 7 f r)), (1, AV.d (DV.v (Value.slice none 0 0)))], h := { } }) :=
  symM_ev (n := 60) (sc := []) (keep := [0, 1]) (sc' := []) (by kernel_rfl) AllP_nil
theorem rsnA_ (f : Bool) (r : List (List DV)) :
    Ev C5 noO (Task.code 22 false (loopOf Try.prog 22 0) { σ := slots 89 [(0, AV.d (DV.sl 7 f r)), (1, AV.d (DV.v (Value.slice none 0 0))), (5, vi 0)], h := { } }) (.code (X.exit 0) { σ := slots 89 [(0, AV.d (DV.sl 7 f r)), (1, AV.d (DV.v (Value.slice none 0 0)))], h := { } }) :=
  symM_ev (n := 60) (sc := []) (keep := [0, 1]) (sc' := []) (by kernel_rfl) AllP_nil
theorem rsnC_ (f : Bool) (r : List (List DV)) :
    Ev C5 noO (Task.code 22 false (loopOf Try.prog 22 2) { σ := slots 89 [(0, AV.d (DV.sl 7 f r)), (1, AV.d (DV.v (Value.slice none 0 0))), (9, vi 0)], h := { } }) (.code (X.exit 4) { σ := slots 89 [], h := { } }) :=
  symM_ev (n := 60) (sc := []) (keep := []) (sc' := []) (by kernel_rfl) AllP_nil
theorem rsn_t1l1t1l1l1 (f : Bool) (r : List (List DV)) (rs : List (List DV)) (h1 : refRightSpec [PV.one (DV.sl 7 f r)] = some [PV.one (db true)]) (h2 : Ev C5 noO (Task.code 22 false (loopOf Try.prog 22 0) { σ := slots 89 [(0, AV.d (DV.sl 7 f r)), (1, AV.d (DV.v (Value.slice none 0 0))), (5, vi 0)], h := { } }) (Res.code (X.exit 0) { σ := slots 89 [(0, AV.d (DV.sl 7 f r)), (1, AV.d (DV.v (Value.slice none 0 0)))], h := { } })) (h3 : refSpansSpec [PV.one (DV.sl 7 f r)] = some [PV.one (DV.v (Value.slice none 0 0))]) (h4 : Ev C5 noO (Task.code 22 false (loopOf Try.prog 22 1) { σ := slots 89 [(0, AV.d (DV.sl 7 f r)), (1, AV.d (DV.v (Value.slice none 0 0))), (6, AV.d (DV.v (Value.slice none 0 0))), (7, vi 0)], h := { } }) (Res.code (X.exit 2) { σ := slots 89 [(0, AV.d (DV.sl 7 f r)), (1, AV.d (DV.v (Value.slice none 0 0)))], h := { } })) (h5 : Ev C5 noO (Task.code 22 false (loopOf Try.prog 22 2) { σ := slots 89 [(0, AV.d (DV.sl 7 f r)), (1, AV.d (DV.v (Value.slice none 0 0))), (9, vi 0)], h := { } }) (Res.code (X.exit 4) { σ := slots 89 [], h := { } })) :
    Ev C5 noO (Task.call 22 [AV.d (DV.sl 7 f r), AV.d (DV.v (Value.slice none 0 0))] { }) (.val (vi 0) { }) :=
  sym_ev 80 _ [(site 22 12, Dec.prim [pbool true]), (site 22 8001, Dec.loop [0, 1, 5] (X.exit 0) { σ := slots 89 [(0, AV.d (DV.sl 7 f r)), (1, AV.d (DV.v (Value.slice none 0 0)))], h := { } }), (site 22 38, Dec.prim [nilPV]), (site 22 8001, Dec.loop [0, 1, 6, 7] (X.exit 2) { σ := slots 89 [(0, AV.d (DV.sl 7 f r)), (1, AV.d (DV.v (Value.slice none 0 0)))], h := { } }), (site 22 8001, Dec.loop [0, 1, 9] (X.exit 4) { σ := slots 89 [], h := { } })] _ [] _ (by kernel_rfl) (AllP_cons h1 (AllP_cons h2 (AllP_cons h3 (AllP_cons h4 (AllP_cons h5 AllP_nil)))))
theorem rsn_t1l1t1l1l2 (f : Bool) (r : List (List DV)) (rs : List (List DV)) (h1 : refRightSpec [PV.one (DV.sl 7 f r)] = some [PV.one (db true)]) (h2 : Ev C5 noO (Task.code 22 false (loopOf Try.prog 22 0) { σ := slots 89 [(0, AV.d (DV.sl 7 f r)), (1, AV.d (DV.v (Value.slice none 0 0))), (5, vi 0)], h := { } }) (Res.code (X.exit 0) { σ := slots 89 [(0, AV.d (DV.sl 7 f r)), (1, AV.d (DV.v (Value.slice none 0 0)))], h := { } })) (h3 : refSpansSpec [PV.one (DV.sl 7 f r)] = some [PV.one (DV.v (Value.slice none 0 0))]) (h4 : Ev C5 noO (Task.code 22 false (loopOf Try.prog 22 1) { σ := slots 89 [(0, AV.d (DV.sl 7 f r)), (1, AV.d (DV.v (Value.slice none 0 0))), (6, AV.d (DV.v (Value.slice none 0 0))), (7, vi 0)], h := { } }) (Res.code (X.exit 2) { σ := slots 89 [(0, AV.d (DV.sl 7 f r)), (1, AV.d (DV.v (Value.slice none 0 0)))], h := { } })) (h5 : Ev C5 noO (Task.code 22 false (loopOf Try.prog 22 2) { σ := slots 89 [(0, AV.d (DV.sl 7 f r)), (1, AV.d (DV.v (Value.slice none 0 0))), (9, vi 0)], h := { } }) (Res.code X.ret { σ := slots 89 [(4, vi 9)], h := { } })) :
    Ev C5 noO (Task.call 22 [AV.d (DV.sl 7 f r), AV.d (DV.v (Value.slice none 0 0))] { }) (.val (vi 9) { }) :=
  sym_ev 80 _ [(site 22 12, Dec.prim [pbool true]), (site 22 8001, Dec.loop [0, 1, 5] (X.exit 0) { σ := slots 89 [(0, AV.d (DV.sl 7 f r)), (1, AV.d (DV.v (Value.slice none 0 0)))], h := { } }), (site 22 38, Dec.prim [nilPV]), (site 22 8001, Dec.loop [0, 1, 6, 7] (X.exit 2) { σ := slots 89 [(0, AV.d (DV.sl 7 f r)), (1, AV.d (DV.v (Value.slice none 0 0)))], h := { } }), (site 22 8001, Dec.loop [0, 1, 9] X.ret { σ := slots 89 [(4, vi 9)], h := { } })] _ [] _ (by kernel_rfl) (AllP_cons h1 (AllP_cons h2 (AllP_cons h3 (AllP_cons h4 (AllP_cons h5 AllP_nil)))))
theorem rsn_t1l1t1l2 (f : Bool) (r : List (List DV)) (rs : List (List DV)) (h1 : refRightSpec [PV.one (DV.sl 7 f r)] = some [PV.one (db true)]) (h2 : Ev C5 noO (Task.code 22 false (loopOf Try.prog 22 0) { σ := slots 89 [(0, AV.d (DV.sl 7 f r)), (1, AV.d (DV.v (Value.slice none 0 0))), (5, vi 0)], h := { } }) (Res.code (X.exit 0) { σ := slots 89 [(0, AV.d (DV.sl 7 f r)), (1, AV.d (DV.v (Value.slice none 0 0)))], h := { } })) (h3 : refSpansSpec [PV.one (DV.sl 7 f r)] = some [PV.one (DV.v (Value.slice none 0 0))]) (h4 : Ev C5 noO (Task.code 22 false (loopOf Try.prog 22 1) { σ := slots 89 [(0, AV.d (DV.sl 7 f r)), (1, AV.d (DV.v (Value.slice none 0 0))), (6, AV.d (DV.v (Value.slice none 0 0))), (7, vi 0)], h := { } }) (Res.code X.ret { σ := slots 89 [(4, vi 8)], h := { } })) :
    Ev C5 noO (Task.call 22 [AV.d (DV.sl 7 f r), AV.d (DV.v (Value.slice none 0 0))] { }) (.val (vi 8) { }) :=
  sym_ev 80 _ [(site 22 12, Dec.prim [pbool true]), (site 22 8001, Dec.loop [0, 1, 5] (X.exit 0) { σ := slots 89 [(0, AV.d (DV.sl 7 f r)), (1, AV.d (DV.v (Value.slice none 0 0)))], h := { } }), (site 22 38, Dec.prim [nilPV]), (site 22 8001, Dec.loop [0, 1, 6, 7] X.ret { σ := slots 89 [(4, vi 8)], h := { } })] _ [] _ (by kernel_rfl) (AllP_cons h1 (AllP_cons h2 (AllP_cons h3 (AllP_cons h4 AllP_nil))))
theorem rsn_t1l1t2l1l1 (f : Bool) (r : List (List DV)) (rs : List (List DV)) (h1 : refRightSpec [PV.one (DV.sl 7 f r)] = some [PV.one (db true)]) (h2 : Ev C5 noO (Task.code 22 false (loopOf Try.prog 22 0) { σ := slots 89 [(0, AV.d (DV.sl 7 f r)), (1, AV.d (DV.v (Value.slice none 0 0))), (5, vi 0)], h := { } }) (Res.code (X.exit 0) { σ := slots 89 [(0, AV.d (DV.sl 7 f r)), (1, AV.d (DV.v (Value.slice none 0 0)))], h := { } })) (h3 : refSpansSpec [PV.one (DV.sl 7 f r)] = some [PV.one (DV.sl 4 false rs)]) (h4 : Ev C5 noO (Task.code 22 false (loopOf Try.prog 22 1) { σ := slots 89 [(0, AV.d (DV.sl 7 f r)), (1, AV.d (DV.v (Value.slice none 0 0))), (6, AV.d (DV.sl 4 false rs)), (7, vi 0)], h := { } }) (Res.code (X.exit 2) { σ := slots 89 [(0, AV.d (DV.sl 7 f r)), (1, AV.d (DV.v (Value.slice none 0 0)))], h := { } })) (h5 : Ev C5 noO (Task.code 22 false (loopOf Try.prog 22 2) { σ := slots 89 [(0, AV.d (DV.sl 7 f r)), (1, AV.d (DV.v (Value.slice none 0 0))), (9, vi 0)], h := { } }) (Res.code (X.exit 4) { σ := slots 89 [], h := { } })) :
    Ev C5 noO (Task.call 22 [AV.d (DV.sl 7 f r), AV.d (DV.v (Value.slice none 0 0))] { }) (.val (vi 0) { }) :=
  sym_ev 80 _ [(site 22 12, Dec.prim [pbool true]), (site 22 8001, Dec.loop [0, 1, 5] (X.exit 0) { σ := slots 89 [(0, AV.d (DV.sl 7 f r)), (1, AV.d (DV.v (Value.slice none 0 0)))], h := { } }), (site 22 38, Dec.prim [PV.one (DV.sl 4 false rs)]), (site 22 8001, Dec.loop [0, 1, 6, 7] (X.exit 2) { σ := slots 89 [(0, AV.d (DV.sl 7 f r)), (1, AV.d (DV.v (Value.slice none 0 0)))], h := { } }), (site 22 8001, Dec.loop [0, 1, 9] (X.exit 4) { σ := slots 89 [], h := { } })] _ [] _ (by kernel_rfl) (AllP_cons h1 (AllP_cons h2 (AllP_cons h3 (AllP_cons h4 (AllP_cons h5 AllP_nil)))))
theorem rsn_t1l1t2l1l2 (f : Bool) (r : List (List DV)) (rs : List (List DV)) (h1 : refRightSpec [PV.one (DV.sl 7 f r)] = some [PV.one (db true)]) (h2 : Ev C5 noO (Task.code 22 false (loopOf Try.prog 22 0) { σ := slots 89 [(0, AV.d (DV.sl 7 f r)), (1, AV.d (DV.v (Value.slice none 0 0))), (5, vi 0)], h := { } }) (Res.code (X.exit 0) { σ := slots 89 [(0, AV.d (DV.sl 7 f r)), (1, AV.d (DV.v (Value.slice none 0 0)))], h := { } })) (h3 : refSpansSpec [PV.one (DV.sl 7 f r)] = some [PV.one (DV.sl 4 false rs)]) (h4 : Ev C5 noO (Task.code 22 false (loopOf Try.prog 22 1) { σ := slots 89 [(0, AV.d (DV.sl 7 f r)), (1, AV.d (DV.v (Value.slice none 0 0))), (6, AV.d (DV.sl 4 false rs)), (7, vi 0)], h := { } }) (Res.code (X.exit 2) { σ := slots 89 [(0, AV.d (DV.sl 7 f r)), (1, AV.d (DV.v (Value.slice none 0 0)))], h := { } })) (h5 : Ev C5 noO (Task.code 22 false (loopOf Try.prog 22 2) { σ := slots 89 [(0, AV.d (DV.sl 7 f r)), (1, AV.d (DV.v (Value.slice none 0 0))), (9, vi 0)], h := { } }) (Res.code X.ret { σ := slots 89 [(4, vi 9)], h := { } })) :
    Ev C5 noO (Task.call 22 [AV.d (DV.sl 7 f r), AV.d (DV.v (Value.slice none 0 0))] { }) (.val (vi 9) { }) :=
  sym_ev 80 _ [(site 22 12, Dec.prim [pbool true]), (site 22 8001, Dec.loop [0, 1, 5] (X.exit 0) { σ := slots 89 [(0, AV.d (DV.sl 7 f r)), (1, AV.d (DV.v (Value.slice none 0 0)))], h := { } }), (site 22 38, Dec.prim [PV.one (DV.sl 4 false rs)]), (site 22 8001, Dec.loop [0, 1, 6, 7] (X.exit 2) { σ := slots 89 [(0, AV.d (DV.sl 7 f r)), (1, AV.d (DV.v (Value.slice none 0 0)))], h := { } }), (site 22 8001, Dec.loop [0, 1, 9] X.ret { σ := slots 89 [(4, vi 9)], h := { } })] _ [] _ (by kernel_rfl) (AllP_cons h1 (AllP_cons h2 (AllP_cons h3 (AllP_cons h4 (AllP_cons h5 AllP_nil)))))
theorem rsn_t1l1t2l2 (f : Bool) (r : List (List DV)) (rs : List (List DV)) (h1 : refRightSpec [PV.one (DV.sl 7 f r)] = some [PV.one (db true)]) (h2 : Ev C5 noO (Task.code 22 false (loopOf Try.prog 22 0) { σ := slots 89 [(0, AV.d (DV.sl 7 f r)), (1, AV.d (DV.v (Value.slice none 0 0))), (5, vi 0)], h := { } }) (Res.code (X.exit 0) { σ := slots 89 [(0, AV.d (DV.sl 7 f r)), (1, AV.d (DV.v (Value.slice none 0 0)))], h := { } })) (h3 : refSpansSpec [PV.one (DV.sl 7 f r)] = some [PV.one (DV.sl 4 false rs)]) (h4 : Ev C5 noO (Task.code 22 false (loopOf Try.prog 22 1) { σ := slots 89 [(0, AV.d (DV.sl 7 f r)), (1, AV.d (DV.v (Value.slice none 0 0))), (6, AV.d (DV.sl 4 false rs)), (7, vi 0)], h := { } }) (Res.code X.ret { σ := slots 89 [(4, vi 8)], h := { } })) :
    Ev C5 noO (Task.call 22 [AV.d (DV.sl 7 f r), AV.d (DV.v (Value.slice none 0 0))] { }) (.val (vi 8) { }) :=
  sym_ev 80 _ [(site 22 12, Dec.prim [pbool true]), (site 22 8001, Dec.loop [0, 1, 5] (X.exit 0) { σ := slots 89 [(0, AV.d (DV.sl 7 f r)), (1, AV.d (DV.v (Value.slice none 0 0)))], h := { } }), (site 22 38, Dec.prim [PV.one (DV.sl 4 false rs)]), (site 22 8001, Dec.loop [0, 1, 6, 7] X.ret { σ := slots 89 [(4, vi 8)], h := { } })] _ [] _ (by kernel_rfl) (AllP_cons h1 (AllP_cons h2 (AllP_cons h3 (AllP_cons h4 AllP_nil))))
theorem rsn_t1l2 (f : Bool) (r : List (List DV)) (rs : List (List DV)) (h1 : refRightSpec [PV.one (DV.sl 7 f r)] = some [PV.one (db true)]) (h2 : Ev C5 noO (Task.code 22 false (loopOf Try.prog 22 0) { σ := slots 89 [(0, AV.d (DV.sl 7 f r)), (1, AV.d (DV.v (Value.slice none 0 0))), (5, vi 0)], h := { } }) (Res.code X.ret { σ := slots 89 [(4, vi 1)], h := { } })) :
    Ev C5 noO (Task.call 22 [AV.d (DV.sl 7 f r), AV.d (DV.v (Value.slice none 0 0))] { }) (.val (vi 1) { }) :=
  sym_ev 80 _ [(site 22 12, Dec.prim [pbool true]), (site 22 8001, Dec.loop [0, 1, 5] X.ret { σ := slots 89 [(4, vi 1)], h := { } })] _ [] _ (by kernel_rfl) (AllP_cons h1 (AllP_cons h2 AllP_nil))
theorem rsn_t2 (f : Bool) (r : List (List DV)) (rs : List (List DV)) (h1 : refRightSpec [PV.one (DV.sl 7 f r)] = some [PV.one (db false)]) :
    Ev C5 noO (Task.call 22 [AV.d (DV.sl 7 f r), AV.d (DV.v (Value.slice none 0 0))] { }) (.val (vi 4) { }) :=
  sym_ev 80 _ [(site 22 12, Dec.prim [pbool false])] _ [] _ (by kernel_rfl) (AllP_cons h1 AllP_nil)
theorem rnsb_yt1yL (fo : Bool) (ro : List (List DV)) (gs : Bool) (rs : List (List DV)) (i : Int) (i41 : Int) (u : S4) (u2 : S4) (u3 : S4) (i44 : Int) (x : X) (s : St) (h1 : ↑(List.length rs) = i41) (h2 : decide (i < i41) = true) (h3 : 0 ≤ i ∧ rs[Int.toNat i]? = some [di u.1, di u.snd.1, di u.snd.snd.1, di u.snd.snd.2]) (h4 : 0 ≤ i ∧ rs[Int.toNat i]? = some [di u2.1, di u2.snd.1, di u2.snd.snd.1, di u2.snd.snd.2]) (h5 : inSpec [PV.one (DV.sl 2 fo ro), PV.agg [di u.1, di u2.snd.1]] = some [PV.one (db true)]) (h6 : 0 ≤ i ∧ rs[Int.toNat i]? = some [di u3.1, di u3.snd.1, di u3.snd.snd.1, di u3.snd.snd.2]) (h7 : decide (u3.snd.2.snd ≥ 0) = true) (h8 : wr64 (i + 1) = i44) (h9 : Ev C5 noO (Task.code 22 false (loopOf Try.prog 22 1) { σ := slots 89 [(0, AV.d (DV.v (Value.slice none 0 0))), (1, AV.d (DV.sl 2 fo ro)), (6, AV.d (DV.sl 4 gs rs)), (7, vi i44)], h := { } }) (Res.code x s)) :
    Ev C5 noO (Task.code 22 false (loopOf Try.prog 22 1) { σ := slots 89 [(0, AV.d (DV.v (Value.slice none 0 0))), (1, AV.d (DV.sl 2 fo ro)), (6, AV.d (DV.sl 4 gs rs)), (7, vi i)], h := { } }) (.code (x) s) :=
  sym_ev 60 _ [(site 22 41, Dec.int i41), (site 22 42, Dec.b true), (site 22 48, Dec.row (rowS u)), (site 22 53, Dec.row (rowS u2)), (site 22 57, Dec.prim [pbool true]), (site 22 60, Dec.row (rowS u3)), (site 22 63, Dec.b true), (site 22 44, Dec.int i44), (site 22 8001, Dec.loop [0, 1, 6, 7] x s)] _ [] _ (by kernel_rfl) (AllP_cons h1 (AllP_cons h2 (AllP_cons h3 (AllP_cons h4 (AllP_cons h5 (AllP_cons h6 (AllP_cons h7 (AllP_cons h8 (AllP_cons h9 AllP_nil)))))))))
theorem rnsb_yt1nL (fo : Bool) (ro : List (List DV)) (gs : Bool) (rs : List (List DV)) (i : Int) (i41 : Int) (u : S4) (u2 : S4) (u3 : S4) (i44 : Int) (x : X) (s : St) (h1 : ↑(List.length rs) = i41) (h2 : decide (i < i41) = true) (h3 : 0 ≤ i ∧ rs[Int.toNat i]? = some [di u.1, di u.snd.1, di u.snd.snd.1, di u.snd.snd.2]) (h4 : 0 ≤ i ∧ rs[Int.toNat i]? = some [di u2.1, di u2.snd.1, di u2.snd.snd.1, di u2.snd.snd.2]) (h5 : inSpec [PV.one (DV.sl 2 fo ro), PV.agg [di u.1, di u2.snd.1]] = some [PV.one (db true)]) (h6 : 0 ≤ i ∧ rs[Int.toNat i]? = some [di u3.1, di u3.snd.1, di u3.snd.snd.1, di u3.snd.snd.2]) (h7 : decide (u3.snd.2.snd ≥ 0) = false) (h8 : wr64 (i + 1) = i44) (h9 : Ev C5 noO (Task.code 22 false (loopOf Try.prog 22 1) { σ := slots 89 [(0, AV.d (DV.v (Value.slice none 0 0))), (1, AV.d (DV.sl 2 fo ro)), (6, AV.d (DV.sl 4 gs rs)), (7, vi i44)], h := { } }) (Res.code x s)) :
    Ev C5 noO (Task.code 22 false (loopOf Try.prog 22 1) { σ := slots 89 [(0, AV.d (DV.v (Value.slice none 0 0))), (1, AV.d (DV.sl 2 fo ro)), (6, AV.d (DV.sl 4 gs rs)), (7, vi i)], h := { } }) (.code (x) s) :=
  sym_ev 60 _ [(site 22 41, Dec.int i41), (site 22 42, Dec.b true), (site 22 48, Dec.row (rowS u)), (site 22 53, Dec.row (rowS u2)), (site 22 57, Dec.prim [pbool true]), (site 22 60, Dec.row (rowS u3)), (site 22 63, Dec.b false), (site 22 44, Dec.int i44), (site 22 8001, Dec.loop [0, 1, 6, 7] x s)] _ [] _ (by kernel_rfl) (AllP_cons h1 (AllP_cons h2 (AllP_cons h3 (AllP_cons h4 (AllP_cons h5 (AllP_cons h6 (AllP_cons h7 (AllP_cons h8 (AllP_cons h9 AllP_nil)))))))))
theorem rnsb_yt2y (fo : Bool) (ro : List (List DV)) (gs : Bool) (rs : List (List DV)) (i : Int) (i41 : Int) (u : S4) (u2 : S4) (u3 : S4) (h1 : ↑(List.length rs) = i41) (h2 : decide (i < i41) = true) (h3 : 0 ≤ i ∧ rs[Int.toNat i]? = some [di u.1, di u.snd.1, di u.snd.snd.1, di u.snd.snd.2]) (h4 : 0 ≤ i ∧ rs[Int.toNat i]? = some [di u2.1, di u2.snd.1, di u2.snd.snd.1, di u2.snd.snd.2]) (h5 : inSpec [PV.one (DV.sl 2 fo ro), PV.agg [di u.1, di u2.snd.1]] = some [PV.one (db false)]) (h6 : 0 ≤ i ∧ rs[Int.toNat i]? = some [di u3.1, di u3.snd.1, di u3.snd.snd.1, di u3.snd.snd.2]) (h7 : decide (u3.snd.2.snd ≥ 0) = true) :
    Ev C5 noO (Task.code 22 false (loopOf Try.prog 22 1) { σ := slots 89 [(0, AV.d (DV.v (Value.slice none 0 0))), (1, AV.d (DV.sl 2 fo ro)), (6, AV.d (DV.sl 4 gs rs)), (7, vi i)], h := { } }) (.code (X.ret) { σ := slots 89 [(4, vi 8)], h := { } }) :=
  symM_ev (n := 60) (sc := [(site 22 41, Dec.int i41), (site 22 42, Dec.b true), (site 22 48, Dec.row (rowS u)), (site 22 53, Dec.row (rowS u2)), (site 22 57, Dec.prim [pbool false]), (site 22 60, Dec.row (rowS u3)), (site 22 63, Dec.b true)]) (keep := [4]) (sc' := []) (by kernel_rfl) (AllP_cons h1 (AllP_cons h2 (AllP_cons h3 (AllP_cons h4 (AllP_cons h5 (AllP_cons h6 (AllP_cons h7 AllP_nil)))))))
theorem rnsb_yt2nL (fo : Bool) (ro : List (List DV)) (gs : Bool) (rs : List (List DV)) (i : Int) (i41 : Int) (u : S4) (u2 : S4) (u3 : S4) (i44 : Int) (x : X) (s : St) (h1 : ↑(List.length rs) = i41) (h2 : decide (i < i41) = true) (h3 : 0 ≤ i ∧ rs[Int.toNat i]? = some [di u.1, di u.snd.1, di u.snd.snd.1, di u.snd.snd.2]) (h4 : 0 ≤ i ∧ rs[Int.toNat i]? = some [di u2.1, di u2.snd.1, di u2.snd.snd.1, di u2.snd.snd.2]) (h5 : inSpec [PV.one (DV.sl 2 fo ro), PV.agg [di u.1, di u2.snd.1]] = some [PV.one (db false)]) (h6 : 0 ≤ i ∧ rs[Int.toNat i]? = some [di u3.1, di u3.snd.1, di u3.snd.snd.1, di u3.snd.snd.2]) (h7 : decide (u3.snd.2.snd ≥ 0) = false) (h8 : wr64 (i + 1) = i44) (h9 : Ev C5 noO (Task.code 22 false (loopOf Try.prog 22 1) { σ := slots 89 [(0, AV.d (DV.v (Value.slice none 0 0))), (1, AV.d (DV.sl 2 fo ro)), (6, AV.d (DV.sl 4 gs rs)), (7, vi i44)], h := { } }) (Res.code x s)) :
    Ev C5 noO (Task.code 22 false (loopOf Try.prog 22 1) { σ := slots 89 [(0, AV.d (DV.v (Value.slice none 0 0))), (1, AV.d (DV.sl 2 fo ro)), (6, AV.d (DV.sl 4 gs rs)), (7, vi i)], h := { } }) (.code (x) s) :=
  sym_ev 60 _ [(site 22 41, Dec.int i41), (site 22 42, Dec.b true), (site 22 48, Dec.row (rowS u)), (site 22 53, Dec.row (rowS u2)), (site 22 57, Dec.prim [pbool false]), (site 22 60, Dec.row (rowS u3)), (site 22 63, Dec.b false), (site 22 44, Dec.int i44), (site 22 8001, Dec.loop [0, 1, 6, 7] x s)] _ [] _ (by kernel_rfl) (AllP_cons h1 (AllP_cons h2 (AllP_cons h3 (AllP_cons h4 (AllP_cons h5 (AllP_cons h6 (AllP_cons h7 (AllP_cons h8 (AllP_cons h9 AllP_nil)))))))))
theorem rnsb_n (fo : Bool) (ro : List (List DV)) (gs : Bool) (rs : List (List DV)) (i : Int) (i41 : Int) (h1 : ↑(List.length rs) = i41) (h2 : decide (i < i41) = false) :
    Ev C5 noO (Task.code 22 false (loopOf Try.prog 22 1) { σ := slots 89 [(0, AV.d (DV.v (Value.slice none 0 0))), (1, AV.d (DV.sl 2 fo ro)), (6, AV.d (DV.sl 4 gs rs)), (7, vi i)], h := { } }) (.code (X.exit 2) { σ := slots 89 [(0, AV.d (DV.v (Value.slice none 0 0))), (1, AV.d (DV.sl 2 fo ro))], h := { } }) :=
  symM_ev (n := 60) (sc := [(site 22 41, Dec.int i41), (site 22 42, Dec.b false)]) (keep := [0, 1]) (sc' := []) (by kernel_rfl) (AllP_cons h1 (AllP_cons h2 AllP_nil))
theorem rnse_ (fo : Bool) (ro : List (List DV)) :
    Ev C5 noO (Task.code 22 false (loopOf Try.prog 22 1) { σ := slots 89 [(0, AV.d (DV.v (Value.slice none 0 0))), (1, AV.d (DV.sl 2 fo ro)), (6, AV.d (DV.v (Value.slice none 0 0))), (7, vi 0)], h := { } }) (.code (X.exit 2) { σ := slots 89 [(0, AV.d (DV.v (Value.slice none 0 0))), (1, AV.d (DV.sl 2 fo ro))], h := { } }) :=
  symM_ev (n := 60) (sc := []) (keep := [0, 1]) (sc' := []) (by kernel_rfl) AllP_nil
theorem rns_l1l1l1 (fo : Bool) (ro : List (List DV)) (rs : List (List DV)) (h1 : Ev C5 noO (Task.code 22 false (loopOf Try.prog 22 0) { σ := slots 89 [(0, AV.d (DV.v (Value.slice none 0 0))), (1, AV.d (DV.sl 2 fo ro)), (5, vi 0)], h := { } }) (Res.code (X.exit 0) { σ := slots 89 [(0, AV.d (DV.v (Value.slice none 0 0))), (1, AV.d (DV.sl 2 fo ro))], h := { } })) (h2 : Ev C5 noO (Task.code 22 false (loopOf Try.prog 22 1) { σ := slots 89 [(0, AV.d (DV.v (Value.slice none 0 0))), (1, AV.d (DV.sl 2 fo ro)), (6, AV.d (DV.v (Value.slice none 0 0))), (7, vi 0)], h := { } }) (Res.code (X.exit 2) { σ := slots 89 [(0, AV.d (DV.v (Value.slice none 0 0))), (1, AV.d (DV.sl 2 fo ro))], h := { } })) (h3 : Ev C5 noO (Task.code 22 false (loopOf Try.prog 22 2) { σ := slots 89 [(0, AV.d (DV.v (Value.slice none 0 0))), (1, AV.d (DV.sl 2 fo ro)), (9, vi 0)], h := { } }) (Res.code (X.exit 4) { σ := slots 89 [], h := { } })) :
    Ev C5 noO (Task.call 22 [AV.d (DV.v (Value.slice none 0 0)), AV.d (DV.sl 2 fo ro)] { }) (.val (vi 0) { }) :=
  sym_ev 80 _ [(site 22 8001, Dec.loop [0, 1, 5] (X.exit 0) { σ := slots 89 [(0, AV.d (DV.v (Value.slice none 0 0))), (1, AV.d (DV.sl 2 fo ro))], h := { } }), (site 22 8001, Dec.loop [0, 1, 6, 7] (X.exit 2) { σ := slots 89 [(0, AV.d (DV.v (Value.slice none 0 0))), (1, AV.d (DV.sl 2 fo ro))], h := { } }), (site 22 8001, Dec.loop [0, 1, 9] (X.exit 4) { σ := slots 89 [], h := { } })] _ [] _ (by kernel_rfl) (AllP_cons h1 (AllP_cons h2 (AllP_cons h3 AllP_nil)))
theorem rns_l1l1l2 (fo : Bool) (ro : List (List DV)) (rs : List (List DV)) (h1 : Ev C5 noO (Task.code 22 false (loopOf Try.prog 22 0) { σ := slots 89 [(0, AV.d (DV.v (Value.slice none 0 0))), (1, AV.d (DV.sl 2 fo ro)), (5, vi 0)], h := { } }) (Res.code (X.exit 0) { σ := slots 89 [(0, AV.d (DV.v (Value.slice none 0 0))), (1, AV.d (DV.sl 2 fo ro))], h := { } })) (h2 : Ev C5 noO (Task.code 22 false (loopOf Try.prog 22 1) { σ := slots 89 [(0, AV.d (DV.v (Value.slice none 0 0))), (1, AV.d (DV.sl 2 fo ro)), (6, AV.d (DV.v (Value.slice none 0 0))), (7, vi 0)], h := { } }) (Res.code (X.exit 2) { σ := slots 89 [(0, AV.d (DV.v (Value.slice none 0 0))), (1, AV.d (DV.sl 2 fo ro))], h := { } })) (h3 : Ev C5 noO (Task.code 22 false (loopOf Try.prog 22 2) { σ := slots 89 [(0, AV.d (DV.v (Value.slice none 0 0))), (1, AV.d (DV.sl 2 fo ro)), (9, vi 0)], h := { } }) (Res.code X.ret { σ := slots 89 [(4, vi 9)], h := { } })) :
    Ev C5 noO (Task.call 22 [AV.d (DV.v (Value.slice none 0 0)), AV.d (DV.sl 2 fo ro)] { }) (.val (vi 9) { }) :=
  sym_ev 80 _ [(site 22 8001, Dec.loop [0, 1, 5] (X.exit 0) { σ := slots 89 [(0, AV.d (DV.v (Value.slice none 0 0))), (1, AV.d (DV.sl 2 fo ro))], h := { } }), (site 22 8001, Dec.loop [0, 1, 6, 7] (X.exit 2) { σ := slots 89 [(0, AV.d (DV.v (Value.slice none 0 0))), (1, AV.d (DV.sl 2 fo ro))], h := { } }), (site 22 8001, Dec.loop [0, 1, 9] X.ret { σ := slots 89 [(4, vi 9)], h := { } })] _ [] _ (by kernel_rfl) (AllP_cons h1 (AllP_cons h2 (AllP_cons h3 AllP_nil)))
theorem rns_l1l2 (fo : Bool) (ro : List (List DV)) (rs : List (List DV)) (h1 : Ev C5 noO (Task.code 22 false (loopOf Try.prog 22 0) { σ := slots 89 [(0, AV.d (DV.v (Value.slice none 0 0))), (1, AV.d (DV.sl 2 fo ro)), (5, vi 0)], h := { } }) (Res.code (X.exit 0) { σ := slots 89 [(0, AV.d (DV.v (Value.slice none 0 0))), (1, AV.d (DV.sl 2 fo ro))], h := { } })) (h2 : Ev C5 noO (Task.code 22 false (loopOf Try.prog 22 1) { σ := slots 89 [(0, AV.d (DV.v (Value.slice none 0 0))), (1, AV.d (DV.sl 2 fo ro)), (6, AV.d (DV.v (Value.slice none 0 0))), (7, vi 0)], h := { } }) (Res.code X.ret { σ := slots 89 [(4, vi 8)], h := { } })) :
    Ev C5 noO (Task.call 22 [AV.d (DV.v (Value.slice none 0 0)), AV.d (DV.sl 2 fo ro)] { }) (.val (vi 8) { }) :=
  sym_ev 80 _ [(site 22 8001, Dec.loop [0, 1, 5] (X.exit 0) { σ := slots 89 [(0, AV.d (DV.v (Value.slice none 0 0))), (1, AV.d (DV.sl 2 fo ro))], h := { } }), (site 22 8001, Dec.loop [0, 1, 6, 7] X.ret { σ := slots 89 [(4, vi 8)], h := { } })] _ [] _ (by kernel_rfl) (AllP_cons h1 (AllP_cons h2 AllP_nil))
theorem rns_l2 (fo : Bool) (ro : List (List DV)) (rs : List (List DV)) (h1 : Ev C5 noO (Task.code 22 false (loopOf Try.prog 22 0) { σ := slots 89 [(0, AV.d (DV.v (Value.slice none 0 0))), (1, AV.d (DV.sl 2 fo ro)), (5, vi 0)], h := { } }) (Res.code X.ret { σ := slots 89 [(4, vi 1)], h := { } })) :
    Ev C5 noO (Task.call 22 [AV.d (DV.v (Value.slice none 0 0)), AV.d (DV.sl 2 fo ro)] { }) (.val (vi 1) { }) :=
  sym_ev 80 _ [(site 22 8001, Dec.loop [0, 1, 5] X.ret { σ := slots 89 [(4, vi 1)], h := { } })] _ [] _ (by kernel_rfl) (AllP_cons h1 AllP_nil)
theorem rnnb_yy (gs : Bool) (rs : List (List DV)) (i : Int) (i41 : Int) (u : S4) (u2 : S4) (u3 : S4) (h1 : ↑(List.length rs) = i41) (h2 : decide (i < i41) = true) (h3 : 0 ≤ i ∧ rs[Int.toNat i]? = some [di u.1, di u.snd.1, di u.snd.snd.1, di u.snd.snd.2]) (h4 : 0 ≤ i ∧ rs[Int.toNat i]? = some [di u2.1, di u2.snd.1, di u2.snd.snd.1, di u2.snd.snd.2]) (h5 : 0 ≤ i ∧ rs[Int.toNat i]? = some [di u3.1, di u3.snd.1, di u3.snd.snd.1, di u3.snd.snd.2]) (h6 : decide (u3.snd.2.snd ≥ 0) = true) :
    Ev C5 noO (Task.code 22 false (loopOf Try.prog 22 1) { σ := slots 89 [(0, AV.d (DV.v (Value.slice none 0 0))), (1, AV.d (DV.v (Value.slice none 0 0))), (6, AV.d (DV.sl 4 gs rs)), (7, vi i)], h := { } }) (.code (X.ret) { σ := slots 89 [(4, vi 8)], h := { } }) :=
  symM_ev (n := 60) (sc := [(site 22 41, Dec.int i41), (site 22 42, Dec.b true), (site 22 48, Dec.row (rowS u)), (site 22 53, Dec.row (rowS u2)), (site 22 60, Dec.row (rowS u3)), (site 22 63, Dec.b true)]) (keep := [4]) (sc' := []) (by kernel_rfl) (AllP_cons h1 (AllP_cons h2 (AllP_cons h3 (AllP_cons h4 (AllP_cons h5 (AllP_cons h6 AllP_nil))))))
theorem rnnb_ynL (gs : Bool) (rs : List (List DV)) (i : Int) (i41 : Int) (u : S4) (u2 : S4) (u3 : S4) (i44 : Int) (x : X) (s : St) (h1 : ↑(List.length rs) = i41) (h2 : decide (i < i41) = true) (h3 : 0 ≤ i ∧ rs[Int.toNat i]? = some [di u.1, di u.snd.1, di u.snd.snd.1, di u.snd.snd.2]) (h4 : 0 ≤ i ∧ rs[Int.toNat i]? = some [di u2.1, di u2.snd.1, di u2.snd.snd.1, di u2.snd.snd.2]) (h5 : 0 ≤ i ∧ rs[Int.toNat i]? = some [di u3.1, di u3.snd.1, di u3.snd.snd.1, di u3.snd.snd.2]) (h6 : decide (u3.snd.2.snd ≥ 0) = false) (h7 : wr64 (i + 1) = i44) (h8 : Ev C5 noO (Task.code 22 false (loopOf Try.prog 22 1) { σ := slots 89 [(0, AV.d (DV.v (Value.slice none 0 0))), (1, AV.d (DV.v (Value.slice none 0 0))), (6, AV.d (DV.sl 4 gs rs)), (7, vi i44)], h := { } }) (Res.code x s)) :
    Ev C5 noO (Task.code 22 false (loopOf Try.prog 22 1) { σ := slots 89 [(0, AV.d (DV.v (Value.slice none 0 0))), (1, AV.d (DV.v (Value.slice none 0 0))), (6, AV.d (DV.sl 4 gs rs)), (7, vi i)], h := { } }) (.code (x) s) :=
  sym_ev 60 _ [(site 22 41, Dec.int i41), (site 22 42, Dec.b true), (site 22 48, Dec.row (rowS u)), (site 22 53, Dec.row (rowS u2)), (site 22 60, Dec.row (rowS u3)), (site 22 63, Dec.b false), (site 22 44, Dec.int i44), (site 22 8001, Dec.loop [0, 1, 6, 7] x s)] _ [] _ (by kernel_rfl) (AllP_cons h1 (AllP_cons h2 (AllP_cons h3 (AllP_cons h4 (AllP_cons h5 (AllP_cons h6 (AllP_cons h7 (AllP_cons h8 AllP_nil))))))))
theorem rnnb_n (gs : Bool) (rs : List (List DV)) (i : Int) (i41 : Int) (h1 : ↑(List.length rs) = i41) (h2 : decide (i < i41) = false) :
    Ev C5 noO (Task.code 22 false (loopOf Try.prog 22 1) { σ := slots 89 [(0, AV.d (DV.v (Value.slice none 0 0))), (1, AV.d (DV.v (Value.slice none 0 0))), (6, AV.d (DV.sl 4 gs rs)), (7, vi i)], h := { } }) (.code (X.exit 2) { σ := slots 89 [(0, AV.d (DV.v (Value.slice none 0 0))), (1, AV.d (DV.v (Value.slice none 0 0)))], h := { } }) :=
  symM_ev (n := 60) (sc := [(site 22 41, Dec.int i41), (site 22 42, Dec.b false)]) (keep := [0, 1]) (sc' := []) (by kernel_rfl) (AllP_cons h1 (AllP_cons h2 AllP_nil))
theorem rnne_ : Ev C5 noO (Task.code 22 false (loopOf Try.prog 22 1) { σ := slots 89 [(0, AV.d (DV.v (Value.slice none 0 0))), (1, AV.d (DV.v (Value.slice none 0 0))), (6, AV.d (DV.v (Value.slice none 0 0))), (7, vi 0)], h := { } }) (.code (X.exit 2) { σ := slots 89 [(0, AV.d (DV.v (Value.slice none 0 0))), (1, AV.d (DV.v (Value.slice none 0 0)))], h := { } }) :=
  symM_ev (n := 60) (sc := []) (keep := [0, 1]) (sc' := []) (by kernel_rfl) AllP_nil
theorem rnnA_ : Ev C5 noO (Task.code 22 false (loopOf Try.prog 22 0) { σ := slots 89 [(0, AV.d (DV.v (Value.slice none 0 0))), (1, AV.d (DV.v (Value.slice none 0 0))), (5, vi 0)], h := { } }) (.code (X.exit 0) { σ := slots 89 [(0, AV.d (DV.v (Value.slice none 0 0))), (1, AV.d (DV.v (Value.slice none 0 0)))], h := { } }) :=
  symM_ev (n := 60) (sc := []) (keep := [0, 1]) (sc' := []) (by kernel_rfl) AllP_nil
theorem rnnC_ : Ev C5 noO (Task.code 22 false (loopOf Try.prog 22 2) { σ := slots 89 [(0, AV.d (DV.v (Value.slice none 0 0))), (1, AV.d (DV.v (Value.slice none 0 0))), (9, vi 0)], h := { } }) (.code (X.exit 4) { σ := slots 89 [], h := { } }) :=
  symM_ev (n := 60) (sc := []) (keep := []) (sc' := []) (by kernel_rfl) AllP_nil
theorem rnn_l1l1l1 (rs : List (List DV)) (h1 : Ev C5 noO (Task.code 22 false (loopOf Try.prog 22 0) { σ := slots 89 [(0, AV.d (DV.v (Value.slice none 0 0))), (1, AV.d (DV.v (Value.slice none 0 0))), (5, vi 0)], h := { } }) (Res.code (X.exit 0) { σ := slots 89 [(0, AV.d (DV.v (Value.slice none 0 0))), (1, AV.d (DV.v (Value.slice none 0 0)))], h := { } })) (h2 : Ev C5 noO (Task.code 22 false (loopOf Try.prog 22 1) { σ := slots 89 [(0, AV.d (DV.v (Value.slice none 0 0))), (1, AV.d (DV.v (Value.slice none 0 0))), (6, AV.d (DV.v (Value.slice none 0 0))), (7, vi 0)], h := { } }) (Res.code (X.exit 2) { σ := slots 89 [(0, AV.d (DV.v (Value.slice none 0 0))), (1, AV.d (DV.v (Value.slice none 0 0)))], h := { } })) (h3 : Ev C5 noO (Task.code 22 false (loopOf Try.prog 22 2) { σ := slots 89 [(0, AV.d (DV.v (Value.slice none 0 0))), (1, AV.d (DV.v (Value.slice none 0 0))), (9, vi 0)], h := { } }) (Res.code (X.exit 4) { σ := slots 89 [], h := { } })) :
    Ev C5 noO (Task.call 22 [AV.d (DV.v (Value.slice none 0 0)), AV.d (DV.v (Value.slice none 0 0))] { }) (.val (vi 0) { }) :=
  sym_ev 80 _ [(site 22 8001, Dec.loop [0, 1, 5] (X.exit 0) { σ := slots 89 [(0, AV.d (DV.v (Value.slice none 0 0))), (1, AV.d (DV.v (Value.slice none 0 0)))], h := { } }), (site 22 8001, Dec.loop [0, 1, 6, 7] (X.exit 2) { σ := slots 89 [(0, AV.d (DV.v (Value.slice none 0 0))), (1, AV.d (DV.v (Value.slice none 0 0)))], h := { } }), (site 22 8001, Dec.loop [0, 1, 9] (X.exit 4) { σ := slots 89 [], h := { } })] _ [] _ (by kernel_rfl) (AllP_cons h1 (AllP_cons h2 (AllP_cons h3 AllP_nil)))
theorem rnn_l1l1l2 (rs : List (List DV)) (h1 : Ev C5 noO (Task.code 22 false (loopOf Try.prog 22 0) { σ := slots 89 [(0, AV.d (DV.v (Value.slice none 0 0))), (1, AV.d (DV.v (Value.slice none 0 0))), (5, vi 0)], h := { } }) (Res.code (X.exit 0) { σ := slots 89 [(0, AV.d (DV.v (Value.slice none 0 0))), (1, AV.d (DV.v (Value.slice none 0 0)))], h := { } })) (h2 : Ev C5 noO (Task.code 22 false (loopOf Try.prog 22 1) { σ := slots 89 [(0, AV.d (DV.v (Value.slice none 0 0))), (1, AV.d (DV.v (Value.slice none 0 0))), (6, AV.d (DV.v (Value.slice none 0 0))), (7, vi 0)], h := { } }) (Res.code (X.exit 2) { σ := slots 89 [(0, AV.d (DV.v (Value.slice none 0 0))), (1, AV.d (DV.v (Value.slice none 0 0)))], h := { } })) (h3 : Ev C5 noO (Task.code 22 false (loopOf Try.prog 22 2) { σ := slots 89 [(0, AV.d (DV.v (Value.slice none 0 0))), (1, AV.d (DV.v (Value.slice none 0 0))), (9, vi 0)], h := { } }) (Res.code X.ret { σ := slots 89 [(4, vi 9)], h := { } })) :
    Ev C5 noO (Task.call 22 [AV.d (DV.v (Value.slice none 0 0)), AV.d (DV.v (Value.slice none 0 0))] { }) (.val (vi 9) { }) :=
  sym_ev 80 _ [(site 22 8001, Dec.loop [0, 1, 5] (X.exit 0) { σ := slots 89 [(0, AV.d (DV.v (Value.slice none 0 0))), (1, AV.d (DV.v (Value.slice none 0 0)))], h := { } }), (site 22 8001, Dec.loop [0, 1, 6, 7] (X.exit 2) { σ := slots 89 [(0, AV.d (DV.v (Value.slice none 0 0))), (1, AV.d (DV.v (Value.slice none 0 0)))], h := { } }), (site 22 8001, Dec.loop [0, 1, 9] X.ret { σ := slots 89 [(4, vi 9)], h := { } })] _ [] _ (by kernel_rfl) (AllP_cons h1 (AllP_cons h2 (AllP_cons h3 AllP_nil)))
theorem rnn_l1l2 (rs : List (List DV)) (h1 : Ev C5 noO (Task.code 22 false (loopOf Try.prog 22 0) { σ := slots 89 [(0, AV.d (DV.v (Value.slice none 0 0))), (1, AV.d (DV.v (Value.slice none 0 0))), (5, vi 0)], h := { } }) (Res.code (X.exit 0) { σ := slots 89 [(0, AV.d (DV.v (Value.slice none 0 0))), (1, AV.d (DV.v (Value.slice none 0 0)))], h := { } })) (h2 : Ev C5 noO (Task.code 22 false (loopOf Try.prog 22 1) { σ := slots 89 [(0, AV.d (DV.v (Value.slice none 0 0))), (1, AV.d (DV.v (Value.slice none 0 0))), (6, AV.d (DV.v (Value.slice none 0 0))), (7, vi 0)], h := { } }) (Res.code X.ret { σ := slots 89 [(4, vi 8)], h := { } })) :
    Ev C5 noO (Task.call 22 [AV.d (DV.v (Value.slice none 0 0)), AV.d (DV.v (Value.slice none 0 0))] { }) (.val (vi 8) { }) :=
  sym_ev 80 _ [(site 22 8001, Dec.loop [0, 1, 5] (X.exit 0) { σ := slots 89 [(0, AV.d (DV.v (Value.slice none 0 0))), (1, AV.d (DV.v (Value.slice none 0 0)))], h := { } }), (site 22 8001, Dec.loop [0, 1, 6, 7] X.ret { σ := slots 89 [(4, vi 8)], h := { } })] _ [] _ (by kernel_rfl) (AllP_cons h1 (AllP_cons h2 AllP_nil))
theorem rnn_l2 (rs : List (List DV)) (h1 : Ev C5 noO (Task.code 22 false (loopOf Try.prog 22 0) { σ := slots 89 [(0, AV.d (DV.v (Value.slice none 0 0))), (1, AV.d (DV.v (Value.slice none 0 0))), (5, vi 0)], h := { } }) (Res.code X.ret { σ := slots 89 [(4, vi 1)], h := { } })) :
    Ev C5 noO (Task.call 22 [AV.d (DV.v (Value.slice none 0 0)), AV.d (DV.v (Value.slice none 0 0))] { }) (.val (vi 1) { }) :=
  sym_ev 80 _ [(site 22 8001, Dec.loop [0, 1, 5] X.ret { σ := slots 89 [(4, vi 1)], h := { } })] _ [] _ (by kernel_rfl) (AllP_cons h1 AllP_nil)

end Go.Ev

namespace Go.Ev
open Go Go.RowKit Go.Proofs

theorem in_at {f : Bool} {l : List (Int × Int)} (a b : Int) (hb : l.length < 2 ^ 40) : inSpec [.one (.sl 2 f (rowsP l)), .agg [di a, di b]] = some [.one (db (l.contains (a, b)))] := by
  have : pairOf (.agg [di a, di b]) = some (a, b) := rfl
  simp only [inSpec, callsOf_sl, this, hb, if_true]; rfl
theorem refBefore_at {f : Bool} {l : List Evt} (a b : Int × Int) (hb : l.length < 2 ^ 40) : refBeforeSpec [.one (.sl 7 f (evRows l)), .agg [di a.1, di a.2], .agg [di b.1, di b.2]] = some [.one (db (refBeforeB l a b))] := by
  have h1 : pairOf (.agg [di a.1, di a.2]) = some a := rfl
  have h2 : pairOf (.agg [di b.1, di b.2]) = some b := rfl
  simp only [refBeforeSpec, evtsOf_sl, h1, h2, hb, if_true]; rfl

def s22 (x y : DV) (more : List (Nat × AV)) : St := { σ := slots 89 ((0, .d x) :: (1, .d y) :: more), h := {} }
def ret22 (n : Int) : X × St := (.ret, { σ := slots 89 [(4, vi n)], h := {} })
def oA (x y : DV) : Bool → X × St
  | true => (.exit 0, s22 x y [])
  | false => ret22 1
def oB (x y : DV) : Bool → X × St
  | true => (.exit 2, s22 x y [])
  | false => ret22 8
def oC : Bool → X × St
  | true => (.exit 4, { σ := slots 89 [], h := {} })
  | false => ret22 9
def oD (x y : DV) (i : Int) : Bool → X × St
  | true => (.exit 6, s22 x y [(9, vi i)])
  | false => ret22 9

section
variable (f : Bool) (l : List Evt) (hl : l.length < 2 ^ 40) (fo : Bool) (all : List (Int × Int)) (ho : all.length < 2 ^ 40)
include hl ho
theorem rfa_loop : ∀ (rest pre : List (Int × Int)), pre ++ rest = all →
    Ev C5 noO (.code 22 false (loopOf Try.prog 22 0) (s22 (.sl 7 f (evRows l)) (.sl 2 fo (rowsP all)) [(5, vi (pre.length : Nat))])) (.code (oA (.sl 7 f (evRows l)) (.sl 2 fo (rowsP all)) (rf1 l pre rest)).1 (oA (.sl 7 f (evRows l)) (.sl 2 fo (rowsP all)) (rf1 l pre rest)).2)
  | [], pre, h => rsa_n _ _ _ _ _ (all.length : Nat) (by simp [rowsP]) (dge (by subst h; simp))
  | c :: rest, pre, h => by
    have hlt := pre_lt h
    have hrow := row_at (g := rowP) h
    have ih := rfa_loop rest (pre ++ [c]) (pre_snoc h)
    simp only [len_snoc] at ih
    have hlen : (((rowsP all).length : Nat) : Int) = (all.length : Nat) := by simp [rowsP]
    have hp := place_at (f := f) c false hl
    by_cases h1 : placeI c false l < 0
    · have : rf1 l pre (c :: rest) = false := by unfold rf1; rw [if_pos h1]
      rw [this]
      exact rsa_yy f _ fo _ _ _ c _ hlen (dlt hlt) hrow hp (decide_eq_true h1)
    · obtain ⟨fc, hcut⟩ : ∃ fc, cutGoal 2 (.d (.sl 2 fo (rowsP all))) none (some ((pre.length : Nat) : Int)) none 0 pre.length (rowsP all).length (.d (.sl 2 fc (rowsP pre))) :=
        ⟨_, rfl, rfl, rfl, rfl, Nat.zero_le _, by simp [rowsP]; omega, Nat.le_refl _, by
          have : ((rowsP all).drop 0).take (pre.length - 0) = rowsP pre := by subst h; simp [rowsP]
          rw [this]⟩
      have hi := in_at (f := fc) (l := pre) c.1 c.2 (by omega)
      have hcc : ((c.1, c.2) : Int × Int) = c := rfl
      rw [hcc] at hi
      cases h2 : pre.contains c with
      | true =>
        have : rf1 l pre (c :: rest) = false := by unfold rf1; rw [if_neg h1, h2]; rfl
        rw [this]
        rw [h2] at hi
        exact rsa_ynt1 f _ fo _ _ _ c _ _ _ fc _ c hlen (dlt hlt) hrow hp (decide_eq_false h1) hcut hrow hi
      | false =>
        have : rf1 l pre (c :: rest) = rf1 l (pre ++ [c]) rest := by rw [rf1, if_neg h1, h2]; rfl
        rw [this]
        rw [h2] at hi
        exact rsa_ynt2L f _ fo _ _ _ c _ _ _ fc _ c _ _ _ hlen (dlt hlt) hrow hp (decide_eq_false h1) hcut hrow hi (wrap_succ (by omega)) ih
theorem rfd_loop (c : Int × Int) (rest2 pre : List (Int × Int)) (h2 : pre ++ c :: rest2 = all) : ∀ (rest pre1 : List (Int × Int)), pre1 ++ rest = pre →
    Ev C5 noO (.code 22 false (loopOf Try.prog 22 3) (s22 (.sl 7 f (evRows l)) (.sl 2 fo (rowsP all)) [(9, vi (pre.length : Nat)), (10, vi (pre1.length : Nat))])) (.code (oD (.sl 7 f (evRows l)) (.sl 2 fo (rowsP all)) (pre.length : Nat) (rf3i l c rest)).1 (oD (.sl 7 f (evRows l)) (.sl 2 fo (rowsP all)) (pre.length : Nat) (rf3i l c rest)).2)
  | [], pre1, h => rsd_n _ _ _ _ _ _ (dge (by subst h; simp))
  | d :: rest, pre1, h => by
    have hlt := pre_lt h
    have hlt2 := pre_lt h2
    have hrow := row_at (g := rowP) h2
    have hrow2 := row_at (g := rowP) (show pre1 ++ d :: (rest ++ c :: rest2) = all by rw [← h2, ← h]; simp)
    have ih := rfd_loop c rest2 pre h2 rest (pre1 ++ [d]) (pre_snoc h)
    simp only [len_snoc] at ih
    have hp := refBefore_at (f := f) c d hl
    unfold rf3i
    cases hb : refBeforeB l c d with
    | true =>
      rw [hb] at hp
      exact rsd_yt1 f _ fo _ _ _ c d (dlt hlt) hrow hrow2 hp
    | false =>
      rw [hb] at hp
      exact rsd_yt2L f _ fo _ _ _ c d _ _ _ (dlt hlt) hrow hrow2 hp (wrap_succ (by omega)) ih
theorem rfc_loop : ∀ (rest pre : List (Int × Int)), pre ++ rest = all →
    Ev C5 noO (.code 22 false (loopOf Try.prog 22 2) (s22 (.sl 7 f (evRows l)) (.sl 2 fo (rowsP all)) [(9, vi (pre.length : Nat))])) (.code (oC (rf3 l pre rest)).1 (oC (rf3 l pre rest)).2)
  | [], pre, h => rsc_n _ _ _ _ _ (all.length : Nat) (by simp [rowsP]) (dge (by subst h; simp))
  | c :: rest, pre, h => by
    have hlt := pre_lt h
    have ih := rfc_loop rest (pre ++ [c]) (pre_snoc h)
    simp only [len_snoc] at ih
    have hlen : (((rowsP all).length : Nat) : Int) = (all.length : Nat) := by simp [rowsP]
    have hd := rfd_loop f l hl fo all ho c rest pre h pre [] rfl
    unfold rf3
    cases hb : rf3i l c pre with
    | true =>
      rw [hb] at hd
      exact rsc_yl1L f _ fo _ _ _ _ _ _ hlen (dlt hlt) hd (wrap_succ (by omega)) ih
    | false =>
      rw [hb] at hd
      exact rsc_yl2 f _ fo _ _ _ hlen (dlt hlt) hd
omit hl in
theorem rfb_loop (gs : Bool) (sp : List S4) (hs : sp.length < 2 ^ 40) : ∀ (rest pre : List S4), pre ++ rest = sp →
    Ev C5 noO (.code 22 false (loopOf Try.prog 22 1) (s22 (.sl 7 f (evRows l)) (.sl 2 fo (rowsP all)) [(6, .d (.sl 4 gs (rowsS sp))), (7, vi (pre.length : Nat))])) (.code (oB (.sl 7 f (evRows l)) (.sl 2 fo (rowsP all)) (rf2 all rest)).1 (oB (.sl 7 f (evRows l)) (.sl 2 fo (rowsP all)) (rf2 all rest)).2)
  | [], pre, h => rssb_n _ _ _ _ _ _ _ (sp.length : Nat) (by simp [rowsS]) (dge (by subst h; simp))
  | s :: rest, pre, h => by
    have hlt := pre_lt h
    have hrow := row_at (g := rowS) h
    have ih := rfb_loop gs sp hs rest (pre ++ [s]) (pre_snoc h)
    simp only [len_snoc] at ih
    have hlen : (((rowsS sp).length : Nat) : Int) = (sp.length : Nat) := by simp [rowsS]
    have hi := in_at (f := fo) (l := all) s.1 s.2.1 ho
    unfold rf2
    cases hb : all.contains (s.1, s.2.1) with
    | true =>
      rw [hb] at hi
      rw [if_neg (by simp)]
      by_cases h1 : s.2.2.2 ≥ 0
      · exact rssb_yt1yL f _ fo _ gs _ _ _ s s s _ _ _ hlen (dlt hlt) hrow hrow hi hrow (decide_eq_true h1) (wrap_succ (by omega)) ih
      · exact rssb_yt1nL f _ fo _ gs _ _ _ s s s _ _ _ hlen (dlt hlt) hrow hrow hi hrow (decide_eq_false h1) (wrap_succ (by omega)) ih
    | false =>
      rw [hb] at hi
      by_cases h1 : s.2.2.2 ≥ 0
      · rw [if_pos ⟨h1, rfl⟩]
        exact rssb_yt2y f _ fo _ gs _ _ _ s s s hlen (dlt hlt) hrow hrow hi hrow (decide_eq_true h1)
      · rw [if_neg (fun h => h1 h.1)]
        exact rssb_yt2nL f _ fo _ gs _ _ _ s s s _ _ _ hlen (dlt hlt) hrow hrow hi hrow (decide_eq_false h1) (wrap_succ (by omega)) ih
omit hl ho in
theorem rfbn_loop (gs : Bool) (sp : List S4) (hs : sp.length < 2 ^ 40) : ∀ (rest pre : List S4), pre ++ rest = sp →
    Ev C5 noO (.code 22 false (loopOf Try.prog 22 1) (s22 (.sl 7 f (evRows l)) (.v (.slice none 0 0)) [(6, .d (.sl 4 gs (rowsS sp))), (7, vi (pre.length : Nat))])) (.code (oB (.sl 7 f (evRows l)) (.v (.slice none 0 0)) (rf2 [] rest)).1 (oB (.sl 7 f (evRows l)) (.v (.slice none 0 0)) (rf2 [] rest)).2)
  | [], pre, h => rsnb_n _ _ _ _ _ (sp.length : Nat) (by simp [rowsS]) (dge (by subst h; simp))
  | s :: rest, pre, h => by
    have hlt := pre_lt h
    have hrow := row_at (g := rowS) h
    have ih := rfbn_loop gs sp hs rest (pre ++ [s]) (pre_snoc h)
    simp only [len_snoc] at ih
    have hlen : (((rowsS sp).length : Nat) : Int) = (sp.length : Nat) := by simp [rowsS]
    unfold rf2
    by_cases h1 : s.2.2.2 ≥ 0
    · rw [if_pos ⟨h1, rfl⟩]
      exact rsnb_yy f _ gs _ _ _ s s s hlen (dlt hlt) hrow hrow hrow (decide_eq_true h1)
    · rw [if_neg (fun h => h1 h.1)]
      exact rsnb_ynL f _ gs _ _ _ s s s _ _ _ hlen (dlt hlt) hrow hrow hrow (decide_eq_false h1) (wrap_succ (by omega)) ih
end

theorem refSpansL_len (all : List Evt) : ∀ (l : List Evt) (i : Nat), (refSpansL all i l).length ≤ l.length
  | [], i => Nat.le_refl _
  | e :: l, i => by
    unfold refSpansL
    have := refSpansL_len all l (i + 1)
    split <;> simp <;> omega
theorem refSpansI_len (l : List Evt) : (refSpansI l).length ≤ l.length := by
  unfold refSpansI
  split
  · exact refSpansL_len _ l 0
  · simp

def refFitsSpec : Spec
  | [p, q] => match evtsOf p, callsOf q with
    | some l, some order => if l.length < 2 ^ 40 ∧ order.length < 2 ^ 40 then some [pint (refFitsB l order)] else none
    | _, _ => none
  | _ => none
theorem refFits_sat : Sat C5 22 refFitsSpec := by
  refine sat_of_ev (O := noO) hP5 (fun _ _ h => h.elim) hm0 fun ps rs hs => ?_
  unfold refFitsSpec at hs
  split at hs
  · split at hs
    · rename_i p q l order hl ho
      split at hs
      · rename_i hb
        obtain ⟨hb, hb2⟩ := hb
        simp only [Option.some.injEq] at hs
        subst hs
        rcases evtsOf_cases hl with ⟨rfl, rfl⟩ | ⟨f, rfl⟩
        · rcases callsOf_cases ho with ⟨rfl, rfl⟩ | ⟨fo, rfl⟩
          · exact ⟨_, _, _, rnn_l1l1l1 [] rnnA_ rnne_ rnnC_, rfl⟩
          · cases order with
            | nil => exact ⟨_, _, _, rns_l1l1l1 fo _ [] (rna_n fo _ 0 0 rfl rfl) (rnse_ fo _) (rnc_n fo _ 0 0 rfl rfl), rfl⟩
            | cons c r => exact ⟨_, _, _, rns_l2 fo _ [] (rna_y fo _ 0 (c :: r).length c (by simp [rowsP]) (by simp) ⟨Int.le_refl _, rfl⟩), rfl⟩
        · have hsl : (refSpansI l).length < 2 ^ 40 := by have := refSpansI_len l; omega
          have hsp : refSpansSpec [.one (.sl 7 f (evRows l))] = some [madePV 4 (rowsS (refSpansI l))] := by simp only [refSpansSpec, evtsOf_sl, hb, if_true]
          unfold refFitsB
          rcases callsOf_cases ho with ⟨rfl, rfl⟩ | ⟨fo, rfl⟩
          · cases hr : refRightB l with
            | false => exact ⟨_, _, _, rsn_t2 f (evRows l) [] (refRight_at hb hr), rfl⟩
            | true =>
              have e1 : rf1 l [] [] = true := rfl
              have e3 : rf3 l [] [] = true := rfl
              rw [e1, e3]
              by_cases hn : refSpansI l = []
              · rw [hn] at hsp ⊢
                exact ⟨_, _, _, rsn_t1l1t1l1l1 f _ [] (refRight_at hb hr) (rsnA_ f _) hsp (rsne_ f _) (rsnC_ f _), rfl⟩
              · rw [made_ne hn] at hsp
                have hB := rfbn_loop f l false (refSpansI l) hsl (refSpansI l) [] rfl
                cases h2 : rf2 [] (refSpansI l) with
                | true => rw [h2] at hB; exact ⟨_, _, _, rsn_t1l1t2l1l1 f _ _ (refRight_at hb hr) (rsnA_ f _) hsp hB (rsnC_ f _), rfl⟩
                | false => rw [h2] at hB; exact ⟨_, _, _, rsn_t1l1t2l2 f _ _ (refRight_at hb hr) (rsnA_ f _) hsp hB, rfl⟩
          · cases hr : refRightB l with
            | false => exact ⟨_, _, _, rss_t2 f (evRows l) fo _ [] (refRight_at hb hr), rfl⟩
            | true =>
              have hA := rfa_loop f l hb fo order hb2 order [] rfl
              have hC := rfc_loop f l hb fo order hb2 order [] rfl
              cases h1 : rf1 l [] order with
              | false => rw [h1] at hA; exact ⟨_, _, _, rss_t1l2 f _ fo _ [] (refRight_at hb hr) hA, rfl⟩
              | true =>
                rw [h1] at hA
                by_cases hn : refSpansI l = []
                · rw [hn] at hsp ⊢
                  have e2 : rf2 order [] = true := rfl
                  rw [e2]
                  cases h3 : rf3 l [] order with
                  | true => rw [h3] at hC; exact ⟨_, _, _, rss_t1l1t1l1l1 f _ fo _ [] (refRight_at hb hr) hA hsp (rsse_ f _ fo _) hC, rfl⟩
                  | false => rw [h3] at hC; exact ⟨_, _, _, rss_t1l1t1l1l2 f _ fo _ [] (refRight_at hb hr) hA hsp (rsse_ f _ fo _) hC, rfl⟩
                · rw [made_ne hn] at hsp
                  have hB := rfb_loop f l fo order hb2 false (refSpansI l) hsl (refSpansI l) [] rfl
                  cases h2 : rf2 order (refSpansI l) with
                  | false => rw [h2] at hB; exact ⟨_, _, _, rss_t1l1t2l2 f _ fo _ _ (refRight_at hb hr) hA hsp hB, rfl⟩
                  | true =>
                    rw [h2] at hB
                    cases h3 : rf3 l [] order with
                    | true => rw [h3] at hC; exact ⟨_, _, _, rss_t1l1t2l1l1 f _ fo _ _ (refRight_at hb hr) hA hsp hB hC, rfl⟩
                    | false => rw [h3] at hC; exact ⟨_, _, _, rss_t1l1t2l1l2 f _ fo _ _ (refRight_at hb hr) hA hsp hB hC, rfl⟩
      · cases hs
    · cases hs
  · cases hs

def L6 : List (FuncId × Spec) := (22, refFitsSpec) :: L5
noncomputable def C6 : Ctx := { P := Try.prog, prim := primL L6 }

end Go.Ev

namespace Go.Ev
open Go Go.RowKit Go.Proofs

theorem primL_mem : ∀ (l : List (FuncId × Spec)), (l.map (·.1)).Nodup → ∀ x ∈ l, primL l x.1 = some x.2 := by
  intro l
  induction l with
  | nil => intro _ x hx; cases hx
  | cons y l ih =>
    intro hn x hx
    rw [List.map_cons, List.nodup_cons] at hn
    simp only [primL]
    rcases List.mem_cons.1 hx with rfl | hx
    · rw [if_pos rfl]
    · have hne : x.1 ≠ y.1 := fun e => hn.1 (by rw [← e]; exact List.mem_map.2 ⟨x, hx, rfl⟩)
      rw [if_neg hne]
      exact ih hn.2 x hx
theorem primOK_cons {L : List (FuncId × Spec)} {C C' : Ctx} {g : FuncId} {s : Spec} (hC : PrimOK C) (hp : C.prim = primL L) (hn : (L.map (·.1)).Nodup) (hs : Sat C g s) (hP : C'.P = C.P) (hg : C'.glob = C.glob)
    (hp' : C'.prim = primL ((g, s) :: L)) (hb : (g :: L.map (·.1)).all (hasBody C') = true) : PrimOK C' := by
  refine .ofList (l := (g, s) :: L) hp' fun x hx => ?_
  rw [List.all_eq_true] at hb
  rcases List.mem_cons.1 hx with rfl | hx
  · exact ⟨hs.ctx hP hg, hb _ (by simp)⟩
  · refine ⟨(hC x.1 x.2 (by rw [hp]; exact primL_mem L hn x hx)).1.ctx hP hg, hb _ ?_⟩
    exact List.mem_cons_of_mem _ (List.mem_map.2 ⟨x, hx, rfl⟩)
theorem hP6 : PrimOK C6 := primOK_cons hP5 rfl (by decide) refFits_sat rfl rfl rfl (by kernel_rfl)

end Go.Ev

namespace Go.Ev
open Go Go.RowKit Go.Proofs

theorem fissy_y (f : Bool) (r : List (List DV)) (fo : Bool) (ro : List (List DV)) (n : Int) (m : Int) (i6 : Int) (h1 : ↑(List.length r) = i6) (h2 : decide (i6 > 60) = true) :
    Ev C6 noO (Task.call 4 [AV.d (DV.sl 7 f r), AV.d (DV.sl 2 fo ro)] { }) (.val (vb true) { }) :=
  sym_ev 60 _ [(site 4 6, Dec.int i6), (site 4 7, Dec.b true)] _ [] _ (by kernel_rfl) (AllP_cons h1 (AllP_cons h2 AllP_nil))
theorem fissy_ny (f : Bool) (r : List (List DV)) (fo : Bool) (ro : List (List DV)) (n : Int) (m : Int) (i6 : Int) (i10 : Int) (h1 : ↑(List.length r) = i6) (h2 : decide (i6 > 60) = false) (h3 : ↑(List.length ro) = i10) (h4 : decide (i10 > 60) = true) :
    Ev C6 noO (Task.call 4 [AV.d (DV.sl 7 f r), AV.d (DV.sl 2 fo ro)] { }) (.val (vb true) { }) :=
  sym_ev 60 _ [(site 4 6, Dec.int i6), (site 4 7, Dec.b false), (site 4 10, Dec.int i10), (site 4 11, Dec.b true)] _ [] _ (by kernel_rfl) (AllP_cons h1 (AllP_cons h2 (AllP_cons h3 (AllP_cons h4 AllP_nil))))
theorem fissy_nn (f : Bool) (r : List (List DV)) (fo : Bool) (ro : List (List DV)) (n : Int) (m : Int) (i6 : Int) (i10 : Int) (h1 : ↑(List.length r) = i6) (h2 : decide (i6 > 60) = false) (h3 : ↑(List.length ro) = i10) (h4 : decide (i10 > 60) = false) (h5 : pfitsSpec [PV.one (DV.sl 7 f r), PV.one (DV.sl 2 fo ro)] = some [PV.one (di n)]) (h6 : refFitsSpec [PV.one (DV.sl 7 f r), PV.one (DV.sl 2 fo ro)] = some [PV.one (di m)]) (h7 : (n == m) = true) :
    Ev C6 noO (Task.call 4 [AV.d (DV.sl 7 f r), AV.d (DV.sl 2 fo ro)] { }) (.val (vb true) { }) :=
  sym_ev 60 _ [(site 4 6, Dec.int i6), (site 4 7, Dec.b false), (site 4 10, Dec.int i10), (site 4 11, Dec.b false), (site 4 18, Dec.prim [pint n]), (site 4 21, Dec.prim [pint m]), (site 4 22, Dec.b true)] _ [] _ (by kernel_rfl) (AllP_cons h1 (AllP_cons h2 (AllP_cons h3 (AllP_cons h4 (AllP_cons h5 (AllP_cons h6 (AllP_cons h7 AllP_nil)))))))
theorem fins_y (fo : Bool) (ro : List (List DV)) (n : Int) (m : Int) (i10 : Int) (h1 : ↑(List.length ro) = i10) (h2 : decide (i10 > 60) = true) :
    Ev C6 noO (Task.call 4 [AV.d (DV.v (Value.slice none 0 0)), AV.d (DV.sl 2 fo ro)] { }) (.val (vb true) { }) :=
  sym_ev 60 _ [(site 4 10, Dec.int i10), (site 4 11, Dec.b true)] _ [] _ (by kernel_rfl) (AllP_cons h1 (AllP_cons h2 AllP_nil))
theorem fins_n (fo : Bool) (ro : List (List DV)) (n : Int) (m : Int) (i10 : Int) (h1 : ↑(List.length ro) = i10) (h2 : decide (i10 > 60) = false) (h3 : pfitsSpec [PV.one (DV.v (Value.slice none 0 0)), PV.one (DV.sl 2 fo ro)] = some [PV.one (di n)]) (h4 : refFitsSpec [PV.one (DV.v (Value.slice none 0 0)), PV.one (DV.sl 2 fo ro)] = some [PV.one (di m)]) (h5 : (n == m) = true) :
    Ev C6 noO (Task.call 4 [AV.d (DV.v (Value.slice none 0 0)), AV.d (DV.sl 2 fo ro)] { }) (.val (vb true) { }) :=
  sym_ev 60 _ [(site 4 10, Dec.int i10), (site 4 11, Dec.b false), (site 4 18, Dec.prim [pint n]), (site 4 21, Dec.prim [pint m]), (site 4 22, Dec.b true)] _ [] _ (by kernel_rfl) (AllP_cons h1 (AllP_cons h2 (AllP_cons h3 (AllP_cons h4 (AllP_cons h5 AllP_nil)))))
theorem fisn_y (f : Bool) (r : List (List DV)) (n : Int) (m : Int) (i6 : Int) (h1 : ↑(List.length r) = i6) (h2 : decide (i6 > 60) = true) :
    Ev C6 noO (Task.call 4 [AV.d (DV.sl 7 f r), AV.d (DV.v (Value.slice none 0 0))] { }) (.val (vb true) { }) :=
  sym_ev 60 _ [(site 4 6, Dec.int i6), (site 4 7, Dec.b true)] _ [] _ (by kernel_rfl) (AllP_cons h1 (AllP_cons h2 AllP_nil))
theorem fisn_n (f : Bool) (r : List (List DV)) (n : Int) (m : Int) (i6 : Int) (h1 : ↑(List.length r) = i6) (h2 : decide (i6 > 60) = false) (h3 : pfitsSpec [PV.one (DV.sl 7 f r), PV.one (DV.v (Value.slice none 0 0))] = some [PV.one (di n)]) (h4 : refFitsSpec [PV.one (DV.sl 7 f r), PV.one (DV.v (Value.slice none 0 0))] = some [PV.one (di m)]) (h5 : (n == m) = true) :
    Ev C6 noO (Task.call 4 [AV.d (DV.sl 7 f r), AV.d (DV.v (Value.slice none 0 0))] { }) (.val (vb true) { }) :=
  sym_ev 60 _ [(site 4 6, Dec.int i6), (site 4 7, Dec.b false), (site 4 18, Dec.prim [pint n]), (site 4 21, Dec.prim [pint m]), (site 4 22, Dec.b true)] _ [] _ (by kernel_rfl) (AllP_cons h1 (AllP_cons h2 (AllP_cons h3 (AllP_cons h4 (AllP_cons h5 AllP_nil)))))
theorem finn_ (n : Int) (m : Int) :
    Ev C6 noO (Task.call 4 [AV.d (DV.v (Value.slice none 0 0)), AV.d (DV.v (Value.slice none 0 0))] { }) (.val (vb true) { }) :=
  sym_ev 60 _ [] _ [] _ (by kernel_rfl) AllP_nil

end Go.Ev

namespace Go.Ev
open Go Go.RowKit Go.Proofs

def lawFitsSpec : Spec
  | [p, q] => match evtsOf p, callsOf q with
    | some l, some order => some [pbool true]
    | _, _ => none
  | _ => none
theorem lawFits_sat : Sat C6 4 lawFitsSpec := by
  refine sat_of_ev (O := noO) hP6 (fun _ _ h => h.elim) hm0 fun ps rs hs => ?_
  unfold lawFitsSpec at hs
  split at hs
  · split at hs
    · rename_i p q _ _ l order hl ho
      simp only [Option.some.injEq] at hs
      subst hs
      have hA : l.length < 2 ^ 40 ∧ order.length < 2 ^ 40 → pfitsSpec [p, q] = some [pint (fitsB l order)] := fun hb => by simp only [pfitsSpec, hl, ho, if_pos hb]
      have hB : l.length < 2 ^ 40 ∧ order.length < 2 ^ 40 → refFitsSpec [p, q] = some [pint (fitsB l order)] := fun hb => by simp only [refFitsSpec, hl, ho, if_pos hb, fits_eq]
      have hE : (fitsB l order == fitsB l order) = true := by simp
      rcases evtsOf_cases hl with ⟨rfl, rfl⟩ | ⟨f, rfl⟩
      · rcases callsOf_cases ho with ⟨rfl, rfl⟩ | ⟨fo, rfl⟩
        · exact ⟨_, _, _, finn_ 0 0, rfl⟩
        · have hlo : (((rowsP order).length : Nat) : Int) = (order.length : Nat) := by simp [rowsP]
          by_cases h2 : order.length > 60
          · exact ⟨_, _, _, fins_y fo _ 0 0 _ hlo (decide_eq_true (by omega)), rfl⟩
          · exact ⟨_, _, _, fins_n fo _ _ _ _ hlo (decide_eq_false (by omega)) (hA ⟨by simp, by omega⟩) (hB ⟨by simp, by omega⟩) hE, rfl⟩
      · have hll : (((evRows l).length : Nat) : Int) = (l.length : Nat) := by simp [evRows]
        rcases callsOf_cases ho with ⟨rfl, rfl⟩ | ⟨fo, rfl⟩
        · by_cases h1 : l.length > 60
          · exact ⟨_, _, _, fisn_y f _ 0 0 _ hll (decide_eq_true (by omega)), rfl⟩
          · exact ⟨_, _, _, fisn_n f _ _ _ _ hll (decide_eq_false (by omega)) (hA ⟨by omega, by simp⟩) (hB ⟨by omega, by simp⟩) hE, rfl⟩
        · have hlo : (((rowsP order).length : Nat) : Int) = (order.length : Nat) := by simp [rowsP]
          by_cases h1 : l.length > 60
          · exact ⟨_, _, _, fissy_y f _ fo _ 0 0 _ hll (decide_eq_true (by omega)), rfl⟩
          · by_cases h2 : order.length > 60
            · exact ⟨_, _, _, fissy_ny f _ fo _ 0 0 _ _ hll (decide_eq_false (by omega)) hlo (decide_eq_true (by omega)), rfl⟩
            · exact ⟨_, _, _, fissy_nn f _ fo _ _ _ _ _ hll (decide_eq_false (by omega)) hlo (decide_eq_false (by omega)) (hA ⟨by omega, by omega⟩) (hB ⟨by omega, by omega⟩) hE, rfl⟩
    · cases hs
  · cases hs

end Go.Ev

namespace Go.Proofs.Ytgpdnahmgacffaa
open Go Go.Ev Go.RowKit Go.ChangeShapes Go.WideShapes Go.ChangeAt

theorem own : ownKnob Try.prog.godebug = none := by kernel_rfl
theorem laidOut : laidOutB Try.prog = true := by kernel_rfl
theorem mapsRow : mapsRowed Try.prog = true := by kernel_rfl
theorem kids : Kids Try.prog (· < Try.prog.types.size) := kids_rows laidOut mapsRow
theorem slicesFull : ∀ t e, t < Try.prog.types.size → Try.prog.underlying t = some (.slice e) → 0 < Try.prog.cellsOf e := slices_full_of Try.prog (by kernel_rfl)
theorem und4' : Try.prog.underlying 4 = some .bool := by kernel_rfl

set_option maxRecDepth 100000 in
/-- what is known of a function that answers true, as the row wants it -/
theorem calls_true {C : Ctx} {g : FuncId} {f : Func} {spec : Go.Ev.Spec} (hC : C.P = Try.prog) (hG : ∀ b, C.glob b = none) (hs : Sat C g spec) {H : Type} {enc : TypeId × Value → H} {s : ChangeSpec} {W : World} {args : Array Value} {ds gs : List (DataW H)} {before : List MemPlace} {ps : List PV}
    (hts : ∀ t ∈ f.params.toList, t < Try.prog.types.size) (hrt : f.resultTypes = #[4]) (hW : DataW.Whole enc Try.prog f.params.toList s.vars false W args.toList ds gs before) (hv : s.vars = [])
    (hargs : (s.fn H (ds ++ gs)).args = ds) (hvars : (s.fn H (ds ++ gs)).vars = []) (hres : (s.fn H (ds ++ gs)).results = [.lit (.bool true)])
    (hps : RPs (FW W) W ps args.toList) (hsp : spec ps = some [pbool true]) :
    Calls Try.prog g args W fun e W' => ∃ v, e = .returned v ∧ s.post enc Try.prog f false true false false W args v W' := by
  have h := hs ps _ hsp (FW W) W args.toList (fun _ _ h => h) (fun b row hb => by rw [hG] at hb; cases hb) hps
  rw [hC] at h
  have e : args.toList.toArray = args := by simp
  rw [e] at h
  refine h.mono ?_
  rintro e W' ⟨v, F', rfl, hb, _, _, _, hr⟩
  have hvv : v = .bool true := by
    cases hr with
    | one _ _ h =>
      cases h with
      | one _ _ h => cases h; rfl
    | many ps vs hn _ => exact absurd rfl hn
  subst hvv
  refine ⟨_, rfl, post_below kids slicesFull hts hW hv hargs hvars (fun b sp hd => ?_) hb ?_⟩
  · rw [hrt, hres]
    exact trodAll_mk1 (shut_bool und4' _)
  · exact ok_one hrt rfl (okWide_bool_mk und4' _)

end Go.Proofs.Ytgpdnahmgacffaa

namespace Go.Proofs.Ytgpdnahmgacffaa
open Go Go.Ev Go.RowKit Go.ChangeShapes Go.WideShapes Go.ChangeAt

set_option maxRecDepth 100000 in
theorem fits_lifted (os : Os) (started : os.Started) (H : Type) (enc : TypeId × Value → H) :
    ReturnsInHanded {} Try.checked os 4 .any (Rows.pastFitsSpec.pre6 enc Try.prog Try.f4 Rows.pastFitsRow.domain false) (Rows.pastFitsSpec.post enc Try.prog Try.f4 false true false false) := by
  refine returnsInHanded_of_change (C := Try.checked) own started (by kernel_rfl) Try.func4
    (ChangeSpec.witness6 (enc := enc) (C := Try.checked) false ⟨#[], #[.slice none 0 0, .slice none 0 0], []⟩ 8 (by kernel_rfl) (by kernel_rfl) (by kernel_rfl) (by kernel_rfl)) ?_
  intro W base args ds gs before hval0 hW hcnd0 _
  have hval : ∀ (j : Nat) t v, Try.f4.params[j]? = some t → args[j]? = some v → Value.okWide Try.prog W .any base t v := hval0
  have hW' := hW
  obtain ⟨p, q, hA0, hV, rfl, hfz, hnd⟩ := hW
  have hA : DataW.TrodAll enc Try.prog W 0 (fun _ => true) true Try.f4.params.toList args.toList ds p := hA0
  rw [Try.params4] at hA hval
  obtain ⟨v0, v1, d0, d1, p0, p1, rfl, rfl, rfl, h0, h1⟩ := trodAll_two hA
  obtain ⟨rfl, rfl⟩ := trodVars_none hV
  clear hA0 hval0
  obtain ⟨q0, l, r0, e0⟩ := rp_evts (hval 0 22 v0 rfl rfl) h0
  obtain ⟨q1, a, r1, e1⟩ := rp_calls (hval 1 32 v1 rfl rfl) h1
  refine calls_true (C := C6) (f := Try.f4) (ps := [q0, q1]) rfl (fun _ => rfl) lawFits_sat ?_ rfl hW' rfl rfl rfl rfl ⟨rfl, fun i p v hp hv => ?_⟩ (by simp only [lawFitsSpec, e0, e1])
  · have h : (Try.f4.params.toList.all fun t => decide (t < Try.prog.types.size)) = true := by kernel_rfl
    intro t ht
    rw [List.all_eq_true] at h
    simpa using h t ht
  · match i, hp, hv with
    | 0, hp, hv => simp at hp hv; subst hp; subst hv; exact r0
    | 1, hp, hv => simp at hp hv; subst hp; subst hv; exact r1
    | j + 2, hp, hv => simp at hp

theorem fits_holds : Rows.PastFitsSaid :=
  OpenClaim.holds_of_wide 4 Try.f4 rfl rfl rfl rfl rfl rfl rfl ⟨rfl, rfl, rfl, rfl, rfl⟩ rfl rfl rfl rfl rfl (by kernel_rfl) Try.func4 (by kernel_rfl)
    (of_decide_eq_true (by kernel_rfl)) (by unfold Func.isWrapper; first | (rw [if_pos (by decide +kernel)]; kernel_rfl) | (rw [if_neg (by decide +kernel)]; exact ⟨rfl, rfl⟩))
    (fun os started H enc _ => fits_lifted os started H enc)

end Go.Proofs.Ytgpdnahmgacffaa
