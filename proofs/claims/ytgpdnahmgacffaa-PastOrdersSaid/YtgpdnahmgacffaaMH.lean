/- What the proof of this claim needs: part MH. No conditions. -/
import Derived.Test.YtgpdnahmgacffaaMG
import Derived.Test.YtgpdnahmgacffaaMF
import Derived.Test.YtgpdnahmgacffaaME
set_option linter.unusedVariables false
set_option linter.unusedSimpArgs false

namespace Go.Ev
open Go

/-! ### the document's Fits -/
def rf1 (l : List Evt) : List (Int × Int) → List (Int × Int) → Bool
  | _, [] => true
  | pre, c :: r => if placeI c false l < 0 then false else if pre.contains c then false else rf1 l (pre ++ [c]) r
def rf2 (order : List (Int × Int)) : List S4 → Bool
  | [] => true
  | s :: r => if s.2.2.2 ≥ 0 ∧ order.contains (s.1, s.2.1) = false then false else rf2 order r
def rf3i (l : List Evt) (c : Int × Int) : List (Int × Int) → Bool
  | [] => true
  | d :: r => if refBeforeB l c d then false else rf3i l c r
def rf3 (l : List Evt) : List (Int × Int) → List (Int × Int) → Bool
  | _, [] => true
  | pre, c :: r => if rf3i l c pre then rf3 l (pre ++ [c]) r else false
def refFitsB (l : List Evt) (order : List (Int × Int)) : Int :=
  if refRightB l = false then 4 else if rf1 l [] order = false then 1 else if rf2 order (refSpansI l) = false then 8 else if rf3 l [] order = false then 9 else 0

theorem keys_set (c v : Int × Int) : ∀ (m : MapE), (m.map (·.1)).Nodup → ((setKV c v m).map (·.1)).Nodup ∧ ∀ x, x ∈ (setKV c v m).map (·.1) → x = c ∨ x ∈ m.map (·.1)
  | [], _ => by simp [setKV]
  | e :: r, h => by
    rw [List.map_cons, List.nodup_cons] at h
    obtain ⟨h1, h2⟩ := h
    obtain ⟨h3, h4⟩ := keys_set c v r h2
    unfold setKV
    split
    · rename_i hc
      subst hc
      simp only [List.map_cons, List.nodup_cons, List.mem_cons]
      exact ⟨⟨h1, h2⟩, fun x hx => by rcases hx with h | h; exact .inl h; exact .inr (.inr h)⟩
    · rename_i hc
      simp only [List.map_cons, List.nodup_cons, List.mem_cons]
      refine ⟨⟨fun hm => ?_, h3⟩, fun x hx => ?_⟩
      · rcases h4 _ hm with h | h
        · exact hc h.symm
        · exact h1 h
      · rcases hx with h | h
        · exact .inr (.inl h)
        · rcases h4 x h with h | h
          · exact .inl h
          · exact .inr (.inr h)
theorem keys_met : ∀ (l : List Evt) (i : Nat) (m : MapE), (m.map (·.1)).Nodup → ((metL i l m).map (·.1)).Nodup
  | [], i, m, h => h
  | e :: l, i, m, h => by
    unfold metL
    refine keys_met l (i + 1) _ ?_
    split
    · exact (keys_set _ _ m h).1
    · exact (keys_set _ _ m h).1
theorem getKV_mem (c v : Int × Int) : ∀ (m : MapE), (m.map (·.1)).Nodup → (getKV c m = some v ↔ (c, v) ∈ m)
  | [], _ => by simp [getKV]
  | e :: r, h => by
    rw [List.map_cons, List.nodup_cons] at h
    simp only [getKV, List.mem_cons]
    split
    · rename_i hc
      subst hc
      constructor
      · intro he
        simp only [Option.some.injEq] at he
        exact .inl (by rw [← he])
      · rintro (he | he)
        · rw [show v = e.2 from congrArg Prod.snd he]
        · exact absurd (List.mem_map.2 ⟨_, he, rfl⟩) h.1
    · rename_i hc
      rw [getKV_mem c v r h.2]
      constructor
      · exact .inr
      · rintro (he | he)
        · exact absurd (by rw [← he]) hc
        · exact he

section
variable {l : List Evt} {m : MapE} (hm : Met l m)
include hm
theorem get_some (c : Int × Int) : (getKV c m).isSome = true ↔ 0 ≤ placeI c false l := by
  rw [hm c]
  rcases placeI_eq c false l with ⟨e1, e2⟩ | ⟨k, e1, e2⟩
  · rw [e1, e2]; simp
  · rw [e1, e2]; simp
theorem get_val (c : Int × Int) (h : 0 ≤ placeI c false l) : (getKV c m).getD (0, 0) = (placeI c false l, placeI c true l) := by
  rw [hm c]
  rcases placeI_eq c false l with ⟨e1, e2⟩ | ⟨k, e1, e2⟩
  · omega
  · rw [e1, e2]; rfl
theorem fits1_eq : ∀ (order had : List (Int × Int)), (fits1 m had order).1 = rf1 l had order ∧ (rf1 l had order = true → (fits1 m had order).2 = had ++ order ∧ ∀ c ∈ order, 0 ≤ placeI c false l)
  | [], had => by simp [fits1, rf1]
  | c :: r, had => by
    obtain ⟨h1, h2⟩ := fits1_eq r (had ++ [c])
    have hg := get_some hm c
    unfold fits1 rf1
    by_cases hp : placeI c false l < 0
    · have : (getKV c m).isSome = false := by
        cases e : (getKV c m).isSome with
        | false => rfl
        | true => have := hg.1 e; omega
      rw [if_pos hp, this]
      simp
    · rw [if_neg hp, hg.2 (by omega)]
      cases hc : had.contains c with
      | true => simp
      | false =>
        simp only [Bool.not_false, Bool.and_self, if_true, Bool.false_eq_true, if_false]
        refine ⟨h1, fun h => ?_⟩
        obtain ⟨h3, h4⟩ := h2 h
        refine ⟨by rw [h3]; simp, fun d hd => ?_⟩
        rcases List.mem_cons.1 hd with rfl | hd
        · omega
        · exact h4 d hd
end

theorem rf2_iff (order : List (Int × Int)) : ∀ s : List S4, rf2 order s = false ↔ ∃ x ∈ s, x.2.2.2 ≥ 0 ∧ order.contains (x.1, x.2.1) = false
  | [] => by simp [rf2]
  | x :: s => by
    unfold rf2
    by_cases h : x.2.2.2 ≥ 0 ∧ order.contains (x.1, x.2.1) = false
    · rw [if_pos h]
      simp only [true_iff]
      exact ⟨x, by simp, h⟩
    · rw [if_neg h, rf2_iff order s]
      constructor
      · rintro ⟨y, hy, h2⟩; exact ⟨y, by simp [hy], h2⟩
      · rintro ⟨y, hy, h2⟩
        rcases List.mem_cons.1 hy with rfl | hy
        · exact absurd h2 h
        · exact ⟨y, hy, h2⟩
theorem mem_refSpans (all : List Evt) (x : S4) : ∀ (l : List Evt) (i : Nat), x ∈ refSpansL all i l → ∃ e ∈ l, e.re = false ∧ x.1 = e.th ∧ x.2.1 = e.ca ∧ x.2.2.2 = placeI (e.th, e.ca) true all
  | [], i, h => by simp [refSpansL] at h
  | e :: l, i, h => by
    unfold refSpansL at h
    cases hr : e.re with
    | true =>
      simp only [hr, if_true] at h
      obtain ⟨e', h1, h2⟩ := mem_refSpans all x l (i + 1) h
      exact ⟨e', by simp [h1], h2⟩
    | false =>
      simp only [hr, Bool.false_eq_true, if_false] at h
      rcases List.mem_cons.1 h with rfl | h
      · exact ⟨e, by simp, hr, rfl, rfl, rfl⟩
      · obtain ⟨e', h1, h2⟩ := mem_refSpans all x l (i + 1) h
        exact ⟨e', by simp [h1], h2⟩
theorem refSpans_mem (all : List Evt) {e : Evt} (hr : e.re = false) : ∀ (l : List Evt) (i : Nat), e ∈ l → ∃ x ∈ refSpansL all i l, x.1 = e.th ∧ x.2.1 = e.ca ∧ x.2.2.2 = placeI (e.th, e.ca) true all
  | y :: l, i, h => by
    unfold refSpansL
    rcases List.mem_cons.1 h with rfl | h
    · simp only [hr, Bool.false_eq_true, if_false]
      exact ⟨_, List.mem_cons_self .., rfl, rfl, rfl⟩
    · obtain ⟨x, h1, h2⟩ := refSpans_mem all hr l (i + 1) h
      split
      · exact ⟨x, h1, h2⟩
      · exact ⟨x, by simp [h1], h2⟩

theorem any_eq {l : List Evt} (hr : rightB l = true) (order : List (Int × Int)) : (metL 0 l []).any (isBad order) = !rf2 order (refSpansI l) := by
  obtain ⟨hm, -⟩ := met_of hr
  have hk := keys_met l 0 [] (by simp)
  have hsp : refSpansI l = refSpansL l 0 l := by unfold refSpansI; rw [← right_eq, hr]; rfl
  rw [hsp]
  cases h : rf2 order (refSpansL l 0 l) with
  | false =>
    obtain ⟨x, hx, h1, h2⟩ := (rf2_iff order _).1 h
    obtain ⟨e, he, hre, q1, q2, q3⟩ := mem_refSpans l x l 0 hx
    obtain ⟨b, hb⟩ := placeF_mem (e.th, e.ca) false (e := e) (by simp [hits, hre]) l 0 he
    have hg := hm (e.th, e.ca)
    rw [hb] at hg
    have := (getKV_mem _ _ _ hk).1 hg
    simp only [Bool.not_false, List.any_eq_true]
    refine ⟨_, this, ?_⟩
    rw [q1, q2] at h2
    simp only [isBad, h2, Bool.not_false, Bool.and_true, decide_eq_true_eq]
    omega
  | true =>
    simp only [Bool.not_true, List.any_eq_false]
    intro x hx
    obtain ⟨c, v⟩ := x
    have hg := (getKV_mem c v _ hk).2 hx
    rw [hm c] at hg
    cases hb : placeF c false 0 l with
    | none => rw [hb] at hg; cases hg
    | some b =>
      rw [hb] at hg
      simp only [Option.some.injEq] at hg
      subst hg
      obtain ⟨_, _, e, he, hh⟩ := placeF_some _ _ _ _ _ hb
      simp only [hits, decide_eq_true_eq] at hh
      obtain ⟨g1, g2, g3⟩ := hh
      obtain ⟨x, hx, q1, q2, q3⟩ := refSpans_mem l g3 l 0 (List.mem_of_getElem? he)
      have hc : (e.th, e.ca) = c := Prod.ext g1 g2
      rw [hc] at q3
      simp only [isBad, Bool.and_eq_true, decide_eq_true_eq, Bool.not_eq_true', not_and]
      intro h1 h2
      have : rf2 order (refSpansL l 0 l) = false := (rf2_iff order _).2 ⟨x, hx, by omega, by rw [q1, q2, hc]; exact h2⟩
      rw [h] at this; cases this

theorem rf3i_iff (l : List Evt) (c : Int × Int) : ∀ pre : List (Int × Int), rf3i l c pre = false ↔ ∃ d ∈ pre, refBeforeB l c d = true
  | [] => by simp [rf3i]
  | d :: r => by
    unfold rf3i
    cases h : refBeforeB l c d with
    | true => simp only [if_true, true_iff]; exact ⟨d, by simp, h⟩
    | false =>
      simp only [Bool.false_eq_true, if_false]
      rw [rf3i_iff l c r]
      constructor
      · rintro ⟨y, hy, h2⟩; exact ⟨y, by simp [hy], h2⟩
      · rintro ⟨y, hy, h2⟩
        rcases List.mem_cons.1 hy with rfl | hy
        · rw [h] at h2; cases h2
        · exact ⟨y, hy, h2⟩

theorem late_eq {l : List Evt} {m : MapE} (hr : rightB l = true) (hm : Met l m) : ∀ (order pre : List (Int × Int)) (last : Int), (∀ c ∈ order, 0 ≤ placeI c false l) → (∀ c ∈ pre, 0 ≤ placeI c false l) →
    (∀ x : Int, 0 ≤ x → (x < last ↔ ∃ d ∈ pre, x < placeI d false l)) → late m last order = !rf3 l pre order
  | [], pre, last, _, _, _ => rfl
  | c :: r, pre, last, ho, hp, hx => by
    have hc := ho c (by simp)
    unfold late rf3
    rw [get_val hm c hc]
    simp only
    have hb : ∀ d, 0 ≤ placeI c true l → (refBeforeB l c d = true ↔ placeI c true l < placeI d false l) := by
      intro d h0
      unfold refBeforeB
      rw [← right_eq, hr]
      simp only [Bool.true_and, Bool.and_eq_true, decide_eq_true_eq, gt_iff_lt, ge_iff_le]
      omega
    by_cases h : placeI c true l ≥ 0 ∧ placeI c true l < last
    · rw [if_pos h]
      obtain ⟨d, hd, h2⟩ := (hx _ h.1).1 h.2
      have : rf3i l c pre = false := (rf3i_iff l c pre).2 ⟨d, hd, (hb d h.1).2 h2⟩
      rw [this]; rfl
    · rw [if_neg h]
      have : rf3i l c pre = true := by
        cases e : rf3i l c pre with
        | true => rfl
        | false =>
          obtain ⟨d, hd, h2⟩ := (rf3i_iff l c pre).1 e
          have h0 : 0 ≤ placeI c true l := by
            unfold refBeforeB at h2
            simp only [Bool.and_eq_true, decide_eq_true_eq] at h2
            omega
          exact absurd ⟨h0, (hx _ h0).2 ⟨d, hd, (hb d h0).1 h2⟩⟩ h
      rw [this]
      simp only [if_true]
      refine late_eq hr hm r (pre ++ [c]) _ (fun d hd => ho d (by simp [hd])) (fun d hd => ?_) (fun x h0 => ?_)
      · rcases List.mem_append.1 hd with hd | hd
        · exact hp d hd
        · simp only [List.mem_singleton] at hd; subst hd; exact hc
      · have := hx x h0
        constructor
        · intro h1
          by_cases h2 : x < last
          · obtain ⟨d, hd, h3⟩ := this.1 h2
            exact ⟨d, by simp [hd], h3⟩
          · refine ⟨c, by simp, ?_⟩
            split at h1 <;> omega
        · rintro ⟨d, hd, h3⟩
          rcases List.mem_append.1 hd with hd | hd
          · have := this.2 ⟨d, hd, h3⟩
            split <;> omega
          · simp only [List.mem_singleton] at hd
            subst hd
            split <;> omega

theorem fits_eq (l : List Evt) (order : List (Int × Int)) : fitsB l order = refFitsB l order := by
  unfold fitsB refFitsB
  rw [← right_eq]
  cases hr : rightB l with
  | false => simp
  | true =>
    simp only [if_true, Bool.true_eq_false, if_false]
    obtain ⟨hm, -⟩ := met_of hr
    obtain ⟨h1, h2⟩ := fits1_eq hm order []
    unfold fitsI
    rw [h1]
    cases e1 : rf1 l [] order with
    | false => simp
    | true =>
      obtain ⟨h3, h4⟩ := h2 e1
      simp only [Bool.true_eq_false, if_false]
      rw [h3, List.nil_append, any_eq hr, late_eq hr hm order [] (-1) h4 (fun c hc => by cases hc) (fun x h0 => by simp; omega)]
      cases rf2 order (refSpansI l) <;> cases rf3 l [] order <;> simp

end Go.Ev

namespace Go.Ev
open Go Go.RowKit Go.Proofs

theorem rsa_yy (f : Bool) (r : List (List DV)) (fo : Bool) (ro : List (List DV)) (i : Int) (i16 : Int) (c : Int × Int) (m : Int) (h1 : ↑(List.length ro) = i16) (h2 : decide (i < i16) = true) (h3 : 0 ≤ i ∧ ro[Int.toNat i]? = some [di c.1, di c.2]) (h4 : placeSpec [PV.one (DV.sl 7 f r), PV.agg [di c.1, di c.2], PV.one (db false)] = some [PV.one (di m)]) (h5 : decide (m < 0) = true) :
    Ev C5 noO (Task.code 22 false (loopOf Try.prog 22 0) { σ := slots 89 [(0, AV.d (DV.sl 7 f r)), (1, AV.d (DV.sl 2 fo ro)), (5, vi i)], h := { } }) (.code (X.ret) { σ := slots 89 [(4, vi 1)], h := { } }) :=
  symM_ev (n := 60) (sc := [(site 22 16, Dec.int i16), (site 22 17, Dec.b true), (site 22 23, Dec.row (rowP c)), (site 22 25, Dec.prim [pint m]), (site 22 26, Dec.b true)]) (keep := [4]) (sc' := []) (by kernel_rfl) (AllP_cons h1 (AllP_cons h2 (AllP_cons h3 (AllP_cons h4 (AllP_cons h5 AllP_nil)))))
theorem rsa_ynt1 (f : Bool) (r : List (List DV)) (fo : Bool) (ro : List (List DV)) (i : Int) (i16 : Int) (c : Int × Int) (m : Int) (n : Nat) (k : Nat) (fc : Bool) (rc : List (List DV)) (c2 : Int × Int) (h1 : ↑(List.length ro) = i16) (h2 : decide (i < i16) = true) (h3 : 0 ≤ i ∧ ro[Int.toNat i]? = some [di c.1, di c.2]) (h4 : placeSpec [PV.one (DV.sl 7 f r), PV.agg [di c.1, di c.2], PV.one (db false)] = some [PV.one (di m)]) (h5 : decide (m < 0) = false) (h6 : cutGoal 2 (AV.d (DV.sl 2 fo ro)) none (some i) none 0 n k (AV.d (DV.sl 2 fc rc))) (h7 : 0 ≤ i ∧ ro[Int.toNat i]? = some [di c2.1, di c2.2]) (h8 : inSpec [PV.one (DV.sl 2 fc rc), PV.agg [di c2.1, di c2.2]] = some [PV.one (db true)]) :
    Ev C5 noO (Task.code 22 false (loopOf Try.prog 22 0) { σ := slots 89 [(0, AV.d (DV.sl 7 f r)), (1, AV.d (DV.sl 2 fo ro)), (5, vi i)], h := { } }) (.code (X.ret) { σ := slots 89 [(4, vi 1)], h := { } }) :=
  symM_ev (n := 60) (sc := [(site 22 16, Dec.int i16), (site 22 17, Dec.b true), (site 22 23, Dec.row (rowP c)), (site 22 25, Dec.prim [pint m]), (site 22 26, Dec.b false), (site 22 30, Dec.cut 0 n k (AV.d (DV.sl 2 fc rc))), (site 22 33, Dec.row (rowP c2)), (site 22 35, Dec.prim [pbool true])]) (keep := [4]) (sc' := []) (by kernel_rfl) (AllP_cons h1 (AllP_cons h2 (AllP_cons h3 (AllP_cons h4 (AllP_cons h5 (AllP_cons h6 (AllP_cons h7 (AllP_cons h8 AllP_nil))))))))
theorem rsa_ynt2L (f : Bool) (r : List (List DV)) (fo : Bool) (ro : List (List DV)) (i : Int) (i16 : Int) (c : Int × Int) (m : Int) (n : Nat) (k : Nat) (fc : Bool) (rc : List (List DV)) (c2 : Int × Int) (i19 : Int) (x : X) (s : St) (h1 : ↑(List.length ro) = i16) (h2 : decide (i < i16) = true) (h3 : 0 ≤ i ∧ ro[Int.toNat i]? = some [di c.1, di c.2]) (h4 : placeSpec [PV.one (DV.sl 7 f r), PV.agg [di c.1, di c.2], PV.one (db false)] = some [PV.one (di m)]) (h5 : decide (m < 0) = false) (h6 : cutGoal 2 (AV.d (DV.sl 2 fo ro)) none (some i) none 0 n k (AV.d (DV.sl 2 fc rc))) (h7 : 0 ≤ i ∧ ro[Int.toNat i]? = some [di c2.1, di c2.2]) (h8 : inSpec [PV.one (DV.sl 2 fc rc), PV.agg [di c2.1, di c2.2]] = some [PV.one (db false)]) (h9 : wr64 (i + 1) = i19) (h10 : Ev C5 noO (Task.code 22 false (loopOf Try.prog 22 0) { σ := slots 89 [(0, AV.d (DV.sl 7 f r)), (1, AV.d (DV.sl 2 fo ro)), (5, vi i19)], h := { } }) (Res.code x s)) :
    Ev C5 noO (Task.code 22 false (loopOf Try.prog 22 0) { σ := slots 89 [(0, AV.d (DV.sl 7 f r)), (1, AV.d (DV.sl 2 fo ro)), (5, vi i)], h := { } }) (.code (x) s) :=
  sym_ev 60 _ [(site 22 16, Dec.int i16), (site 22 17, Dec.b true), (site 22 23, Dec.row (rowP c)), (site 22 25, Dec.prim [pint m]), (site 22 26, Dec.b false), (site 22 30, Dec.cut 0 n k (AV.d (DV.sl 2 fc rc))), (site 22 33, Dec.row (rowP c2)), (site 22 35, Dec.prim [pbool false]), (site 22 19, Dec.int i19), (site 22 8001, Dec.loop [0, 1, 5] x s)] _ [] _ (by kernel_rfl) (AllP_cons h1 (AllP_cons h2 (AllP_cons h3 (AllP_cons h4 (AllP_cons h5 (AllP_cons h6 (AllP_cons h7 (AllP_cons h8 (AllP_cons h9 (AllP_cons h10 AllP_nil))))))))))
theorem rsa_n (f : Bool) (r : List (List DV)) (fo : Bool) (ro : List (List DV)) (i : Int) (i16 : Int) (h1 : ↑(List.length ro) = i16) (h2 : decide (i < i16) = false) :
    Ev C5 noO (Task.code 22 false (loopOf Try.prog 22 0) { σ := slots 89 [(0, AV.d (DV.sl 7 f r)), (1, AV.d (DV.sl 2 fo ro)), (5, vi i)], h := { } }) (.code (X.exit 0) { σ := slots 89 [(0, AV.d (DV.sl 7 f r)), (1, AV.d (DV.sl 2 fo ro))], h := { } }) :=
  symM_ev (n := 60) (sc := [(site 22 16, Dec.int i16), (site 22 17, Dec.b false)]) (keep := [0, 1]) (sc' := []) (by kernel_rfl) (AllP_cons h1 (AllP_cons h2 AllP_nil))
theorem rsd_yt1 (f : Bool) (r : List (List DV)) (fo : Bool) (ro : List (List DV)) (i : Int) (j : Int) (c : Int × Int) (d : Int × Int) (h1 : decide (j < i) = true) (h2 : 0 ≤ i ∧ ro[Int.toNat i]? = some [di c.1, di c.2]) (h3 : 0 ≤ j ∧ ro[Int.toNat j]? = some [di d.1, di d.2]) (h4 : refBeforeSpec [PV.one (DV.sl 7 f r), PV.agg [di c.1, di c.2], PV.agg [di d.1, di d.2]] = some [PV.one (db true)]) :
    Ev C5 noO (Task.code 22 false (loopOf Try.prog 22 3) { σ := slots 89 [(0, AV.d (DV.sl 7 f r)), (1, AV.d (DV.sl 2 fo ro)), (9, vi i), (10, vi j)], h := { } }) (.code (X.ret) { σ := slots 89 [(4, vi 9)], h := { } }) :=
  symM_ev (n := 60) (sc := [(site 22 76, Dec.b true), (site 22 82, Dec.row (rowP c)), (site 22 86, Dec.row (rowP d)), (site 22 88, Dec.prim [pbool true])]) (keep := [4]) (sc' := []) (by kernel_rfl) (AllP_cons h1 (AllP_cons h2 (AllP_cons h3 (AllP_cons h4 AllP_nil))))
theorem rsd_yt2L (f : Bool) (r : List (List DV)) (fo : Bool) (ro : List (List DV)) (i : Int) (j : Int) (c : Int × Int) (d : Int × Int) (i78 : Int) (x : X) (s : St) (h1 : decide (j < i) = true) (h2 : 0 ≤ i ∧ ro[Int.toNat i]? = some [di c.1, di c.2]) (h3 : 0 ≤ j ∧ ro[Int.toNat j]? = some [di d.1, di d.2]) (h4 : refBeforeSpec [PV.one (DV.sl 7 f r), PV.agg [di c.1, di c.2], PV.agg [di d.1, di d.2]] = some [PV.one (db false)]) (h5 : wr64 (j + 1) = i78) (h6 : Ev C5 noO (Task.code 22 false (loopOf Try.prog 22 3) { σ := slots 89 [(0, AV.d (DV.sl 7 f r)), (1, AV.d (DV.sl 2 fo ro)), (9, vi i), (10, vi i78)], h := { } }) (Res.code x s)) :
    Ev C5 noO (Task.code 22 false (loopOf Try.prog 22 3) { σ := slots 89 [(0, AV.d (DV.sl 7 f r)), (1, AV.d (DV.sl 2 fo ro)), (9, vi i), (10, vi j)], h := { } }) (.code (x) s) :=
  sym_ev 60 _ [(site 22 76, Dec.b true), (site 22 82, Dec.row (rowP c)), (site 22 86, Dec.row (rowP d)), (site 22 88, Dec.prim [pbool false]), (site 22 78, Dec.int i78), (site 22 8001, Dec.loop [0, 1, 9, 10] x s)] _ [] _ (by kernel_rfl) (AllP_cons h1 (AllP_cons h2 (AllP_cons h3 (AllP_cons h4 (AllP_cons h5 (AllP_cons h6 AllP_nil))))))
theorem rsd_n (f : Bool) (r : List (List DV)) (fo : Bool) (ro : List (List DV)) (i : Int) (j : Int) (h1 : decide (j < i) = false) :
    Ev C5 noO (Task.code 22 false (loopOf Try.prog 22 3) { σ := slots 89 [(0, AV.d (DV.sl 7 f r)), (1, AV.d (DV.sl 2 fo ro)), (9, vi i), (10, vi j)], h := { } }) (.code (X.exit 6) { σ := slots 89 [(0, AV.d (DV.sl 7 f r)), (1, AV.d (DV.sl 2 fo ro)), (9, vi i)], h := { } }) :=
  symM_ev (n := 60) (sc := [(site 22 76, Dec.b false)]) (keep := [0, 1, 9]) (sc' := []) (by kernel_rfl) (AllP_cons h1 AllP_nil)
theorem rsc_yl1L (f : Bool) (r : List (List DV)) (fo : Bool) (ro : List (List DV)) (i : Int) (i70 : Int) (i73 : Int) (x : X) (s : St) (h1 : ↑(List.length ro) = i70) (h2 : decide (i < i70) = true) (h3 : Ev C5 noO (Task.code 22 false (loopOf Try.prog 22 3) { σ := slots 89 [(0, AV.d (DV.sl 7 f r)), (1, AV.d (DV.sl 2 fo ro)), (9, vi i), (10, vi 0)], h := { } }) (Res.code (X.exit 6) { σ := slots 89 [(0, AV.d (DV.sl 7 f r)), (1, AV.d (DV.sl 2 fo ro)), (9, vi i)], h := { } })) (h4 : wr64 (i + 1) = i73) (h5 : Ev C5 noO (Task.code 22 false (loopOf Try.prog 22 2) { σ := slots 89 [(0, AV.d (DV.sl 7 f r)), (1, AV.d (DV.sl 2 fo ro)), (9, vi i73)], h := { } }) (Res.code x s)) :
    Ev C5 noO (Task.code 22 false (loopOf Try.prog 22 2) { σ := slots 89 [(0, AV.d (DV.sl 7 f r)), (1, AV.d (DV.sl 2 fo ro)), (9, vi i)], h := { } }) (.code (x) s) :=
  sym_ev 60 _ [(site 22 70, Dec.int i70), (site 22 71, Dec.b true), (site 22 8001, Dec.loop [0, 1, 9, 10] (X.exit 6) { σ := slots 89 [(0, AV.d (DV.sl 7 f r)), (1, AV.d (DV.sl 2 fo ro)), (9, vi i)], h := { } }), (site 22 73, Dec.int i73), (site 22 8001, Dec.loop [0, 1, 9] x s)] _ [] _ (by kernel_rfl) (AllP_cons h1 (AllP_cons h2 (AllP_cons h3 (AllP_cons h4 (AllP_cons h5 AllP_nil)))))
theorem rsc_yl2 (f : Bool) (r : List (List DV)) (fo : Bool) (ro : List (List DV)) (i : Int) (i70 : Int) (h1 : ↑(List.length ro) = i70) (h2 : decide (i < i70) = true) (h3 : Ev C5 noO (Task.code 22 false (loopOf Try.prog 22 3) { σ := slots 89 [(0, AV.d (DV.sl 7 f r)), (1, AV.d (DV.sl 2 fo ro)), (9, vi i), (10, vi 0)], h := { } }) (Res.code X.ret { σ := slots 89 [(4, vi 9)], h := { } })) :
    Ev C5 noO (Task.code 22 false (loopOf Try.prog 22 2) { σ := slots 89 [(0, AV.d (DV.sl 7 f r)), (1, AV.d (DV.sl 2 fo ro)), (9, vi i)], h := { } }) (.code (X.ret) { σ := slots 89 [(4, vi 9)], h := { } }) :=
  symM_ev (n := 60) (sc := [(site 22 70, Dec.int i70), (site 22 71, Dec.b true), (site 22 8001, Dec.loop [0, 1, 9, 10] X.ret { σ := slots 89 [(4, vi 9)], h := { } })]) (keep := [4]) (sc' := []) (by kernel_rfl) (AllP_cons h1 (AllP_cons h2 (AllP_cons h3 AllP_nil)))
theorem rsc_n (f : Bool) (r : List (List DV)) (fo : Bool) (ro : List (List DV)) (i : Int) (i70 : Int) (h1 : ↑(List.length ro) = i70) (h2 : decide (i < i70) = false) :
    Ev C5 noO (Task.code 22 false (loopOf Try.prog 22 2) { σ := slots 89 [(0, AV.d (DV.sl 7 f r)), (1, AV.d (DV.sl 2 fo ro)), (9, vi i)], h := { } }) (.code (X.exit 4) { σ := slots 89 [], h := { } }) :=
  symM_ev (n := 60) (sc := [(site 22 70, Dec.int i70), (site 22 71, Dec.b false)]) (keep := []) (sc' := []) (by kernel_rfl) (AllP_cons h1 (AllP_cons h2 AllP_nil))
theorem rna_y (fo : Bool) (ro : List (List DV)) (i : Int) (i16 : Int) (c : Int × Int) (h1 : ↑(List.length ro) = i16) (h2 : decide (i < i16) = true) (h3 : 0 ≤ i ∧ ro[Int.toNat i]? = some [di c.1, di c.2]) :
    Ev C5 noO (Task.code 22 false (loopOf Try.prog 22 0) { σ := slots 89 [(0, AV.d (DV.v (Value.slice none 0 0))), (1, AV.d (DV.sl 2 fo ro)), (5, vi i)], h := { } }) (.code (X.ret) { σ := slots 89 [(4, vi 1)], h := { } }) :=
  symM_ev (n := 60) (sc := [(site 22 16, Dec.int i16), (site 22 17, Dec.b true), (site 22 23, Dec.row (rowP c))]) (keep := [4]) (sc' := []) (by kernel_rfl) (AllP_cons h1 (AllP_cons h2 (AllP_cons h3 AllP_nil)))
theorem rna_n (fo : Bool) (ro : List (List DV)) (i : Int) (i16 : Int) (h1 : ↑(List.length ro) = i16) (h2 : decide (i < i16) = false) :
    Ev C5 noO (Task.code 22 false (loopOf Try.prog 22 0) { σ := slots 89 [(0, AV.d (DV.v (Value.slice none 0 0))), (1, AV.d (DV.sl 2 fo ro)), (5, vi i)], h := { } }) (.code (X.exit 0) { σ := slots 89 [(0, AV.d (DV.v (Value.slice none 0 0))), (1, AV.d (DV.sl 2 fo ro))], h := { } }) :=
  symM_ev (n := 60) (sc := [(site 22 16, Dec.int i16), (site 22 17, Dec.b false)]) (keep := [0, 1]) (sc' := []) (by kernel_rfl) (AllP_cons h1 (AllP_cons h2 AllP_nil))
theorem rnd_yL (fo : Bool) (ro : List (List DV)) (i : Int) (j : Int) (c : Int × Int) (d : Int × Int) (i78 : Int) (x : X) (s : St) (h1 : decide (j < i) = true) (h2 : 0 ≤ i ∧ ro[Int.toNat i]? = some [di c.1, di c.2]) (h3 : 0 ≤ j ∧ ro[Int.toNat j]? = some [di d.1, di d.2]) (h4 : wr64 (j + 1) = i78) (h5 : Ev C5 noO (Task.code 22 false (loopOf Try.prog 22 3) { σ := slots 89 [(0, AV.d (DV.v (Value.slice none 0 0))), (1, AV.d (DV.sl 2 fo ro)), (9, vi i), (10, vi i78)], h := { } }) (Res.code x s)) :
    Ev C5 noO (Task.code 22 false (loopOf Try.prog 22 3) { σ := slots 89 [(0, AV.d (DV.v (Value.slice none 0 0))), (1, AV.d (DV.sl 2 fo ro)), (9, vi i), (10, vi j)], h := { } }) (.code (x) s) :=
  sym_ev 60 _ [(site 22 76, Dec.b true), (site 22 82, Dec.row (rowP c)), (site 22 86, Dec.row (rowP d)), (site 22 78, Dec.int i78), (site 22 8001, Dec.loop [0, 1, 9, 10] x s)] _ [] _ (by kernel_rfl) (AllP_cons h1 (AllP_cons h2 (AllP_cons h3 (AllP_cons h4 (AllP_cons h5 AllP_nil)))))
theorem rnd_n (fo : Bool) (ro : List (List DV)) (i : Int) (j : Int) (h1 : decide (j < i) = false) :
    Ev C5 noO (Task.code 22 false (loopOf Try.prog 22 3) { σ := slots 89 [(0, AV.d (DV.v (Value.slice none 0 0))), (1, AV.d (DV.sl 2 fo ro)), (9, vi i), (10, vi j)], h := { } }) (.code (X.exit 6) { σ := slots 89 [(0, AV.d (DV.v (Value.slice none 0 0))), (1, AV.d (DV.sl 2 fo ro)), (9, vi i)], h := { } }) :=
  symM_ev (n := 60) (sc := [(site 22 76, Dec.b false)]) (keep := [0, 1, 9]) (sc' := []) (by kernel_rfl) (AllP_cons h1 AllP_nil)
theorem rnc_yl1L (fo : Bool) (ro : List (List DV)) (i : Int) (i70 : Int) (i73 : Int) (x : X) (s : St) (h1 : ↑(List.length ro) = i70) (h2 : decide (i < i70) = true) (h3 : Ev C5 noO (Task.code 22 false (loopOf Try.prog 22 3) { σ := slots 89 [(0, AV.d (DV.v (Value.slice none 0 0))), (1, AV.d (DV.sl 2 fo ro)), (9, vi i), (10, vi 0)], h := { } }) (Res.code (X.exit 6) { σ := slots 89 [(0, AV.d (DV.v (Value.slice none 0 0))), (1, AV.d (DV.sl 2 fo ro)), (9, vi i)], h := { } })) (h4 : wr64 (i + 1) = i73) (h5 : Ev C5 noO (Task.code 22 false (loopOf Try.prog 22 2) { σ := slots 89 [(0, AV.d (DV.v (Value.slice none 0 0))), (1, AV.d (DV.sl 2 fo ro)), (9, vi i73)], h := { } }) (Res.code x s)) :
    Ev C5 noO (Task.code 22 false (loopOf Try.prog 22 2) { σ := slots 89 [(0, AV.d (DV.v (Value.slice none 0 0))), (1, AV.d (DV.sl 2 fo ro)), (9, vi i)], h := { } }) (.code (x) s) :=
  sym_ev 60 _ [(site 22 70, Dec.int i70), (site 22 71, Dec.b true), (site 22 8001, Dec.loop [0, 1, 9, 10] (X.exit 6) { σ := slots 89 [(0, AV.d (DV.v (Value.slice none 0 0))), (1, AV.d (DV.sl 2 fo ro)), (9, vi i)], h := { } }), (site 22 73, Dec.int i73), (site 22 8001, Dec.loop [0, 1, 9] x s)] _ [] _ (by kernel_rfl) (AllP_cons h1 (AllP_cons h2 (AllP_cons h3 (AllP_cons h4 (AllP_cons h5 AllP_nil)))))
theorem rnc_yl2 (fo : Bool) (ro : List (List DV)) (i : Int) (i70 : Int) (h1 : ↑(List.length ro) = i70) (h2 : decide (i < i70) = true) (h3 : Ev C5 noO (Task.code 22 false (loopOf Try.prog 22 3) { σ := slots 89 [(0, AV.d (DV.v (Value.slice none 0 0))), (1, AV.d (DV.sl 2 fo ro)), (9, vi i), (10, vi 0)], h := { } }) (Res.code X.ret { σ := slots 89 [(4, vi 9)], h := { } })) :
    Ev C5 noO (Task.code 22 false (loopOf Try.prog 22 2) { σ := slots 89 [(0, AV.d (DV.v (Value.slice none 0 0))), (1, AV.d (DV.sl 2 fo ro)), (9, vi i)], h := { } }) (.code (X.ret) { σ := slots 89 [(4, vi 9)], h := { } }) :=
  symM_ev (n := 60) (sc := [(site 22 70, Dec.int i70), (site 22 71, Dec.b true), (site 22 8001, Dec.loop [0, 1, 9, 10] X.ret { σ := slots 89 [(4, vi 9)], h := { } })]) (keep := [4]) (sc' := []) (by kernel_rfl) (AllP_cons h1 (AllP_cons h2 (AllP_cons h3 AllP_nil)))
theorem rnc_n (fo : Bool) (ro : List (List DV)) (i : Int) (i70 : Int) (h1 : ↑(List.length ro) = i70) (h2 : decide (i < i70) = false) :
    Ev C5 noO (Task.code 22 false (loopOf Try.prog 22 2) { σ := slots 89 [(0, AV.d (DV.v (Value.slice none 0 0))), (1, AV.d (DV.sl 2 fo ro)), (9, vi i)], h := { } }) (.code (X.exit 4) { σ := slots 89 [], h := { } }) :=
  symM_ev (n := 60) (sc := [(site 22 70, Dec.int i70), (site 22 71, Dec.b false)]) (keep := []) (sc' := []) (by kernel_rfl) (AllP_cons h1 (AllP_cons h2 AllP_nil))
theorem rssb_yt1yL (f : Bool) (r : List (List DV)) (fo : Bool) (ro : List (List DV)) (gs : Bool) (rs : List (List DV)) (i : Int) (i41 : Int) (u : S4) (u2 : S4) (u3 : S4) (i44 : Int) (x : X) (s : St) (h1 : ↑(List.length rs) = i41) (h2 : decide (i < i41) = true) (h3 : 0 ≤ i ∧ rs[Int.toNat i]? = some [di u.1, di u.snd.1, di u.snd.snd.1, di u.snd.snd.2]) (h4 : 0 ≤ i ∧ rs[Int.toNat i]? = some [di u2.1, di u2.snd.1, di u2.snd.snd.1, di u2.snd.snd.2]) (h5 : inSpec [PV.one (DV.sl 2 fo ro), PV.agg [di u.1, di u2.snd.1]] = some [PV.one (db true)]) (h6 : 0 ≤ i ∧ rs[Int.toNat i]? = some [di u3.1, di u3.snd.1, di u3.snd.snd.1, di u3.snd.snd.2]) (h7 : decide (u3.snd.2.snd ≥ 0) = true) (h8 : wr64 (i + 1) = i44) (h9 : Ev C5 noO (Task.code 22 false (loopOf Try.prog 22 1) { σ := slots 89 [(0, AV.d (DV.sl 7 f r)), (1, AV.d (DV.sl 2 fo ro)), (6, AV.d (DV.sl 4 gs rs)), (7, vi i44)], h := { } }) (Res.code x s)) :
    Ev C5 noO (Task.code 22 false (loopOf Try.prog 22 1) { σ := slots 89 [(0, AV.d (DV.sl 7 f r)), (1, AV.d (DV.sl 2 fo ro)), (6, AV.d (DV.sl 4 gs rs)), (7, vi i)], h := { } }) (.code (x) s) :=
  sym_ev 60 _ [(site 22 41, Dec.int i41), (site 22 42, Dec.b true), (site 22 48, Dec.row (rowS u)), (site 22 53, Dec.row (rowS u2)), (site 22 57, Dec.prim [pbool true]), (site 22 60, Dec.row (rowS u3)), (site 22 63, Dec.b true), (site 22 44, Dec.int i44), (site 22 8001, Dec.loop [0, 1, 6, 7] x s)] _ [] _ (by kernel_rfl) (AllP_cons h1 (AllP_cons h2 (AllP_cons h3 (AllP_cons h4 (AllP_cons h5 (AllP_cons h6 (AllP_cons h7 (AllP_cons h8 (AllP_cons h9 AllP_nil)))))))))
theorem rssb_yt1nL (f : Bool) (r : List (List DV)) (fo : Bool) (ro : List (List DV)) (gs : Bool) (rs : List (List DV)) (i : Int) (i41 : Int) (u : S4) (u2 : S4) (u3 : S4) (i44 : Int) (x : X) (s : St) (h1 : ↑(List.length rs) = i41) (h2 : decide (i < i41) = true) (h3 : 0 ≤ i ∧ rs[Int.toNat i]? = some [di u.1, di u.snd.1, di u.snd.snd.1, di u.snd.snd.2]) (h4 : 0 ≤ i ∧ rs[Int.toNat i]? = some [di u2.1, di u2.snd.1, di u2.snd.snd.1, di u2.snd.snd.2]) (h5 : inSpec [PV.one (DV.sl 2 fo ro), PV.agg [di u.1, di u2.snd.1]] = some [PV.one (db true)]) (h6 : 0 ≤ i ∧ rs[Int.toNat i]? = some [di u3.1, di u3.snd.1, di u3.snd.snd.1, di u3.snd.snd.2]) (h7 : decide (u3.snd.2.snd ≥ 0) = false) (h8 : wr64 (i + 1) = i44) (h9 : Ev C5 noO (Task.code 22 false (loopOf Try.prog 22 1) { σ := slots 89 [(0, AV.d (DV.sl 7 f r)), (1, AV.d (DV.sl 2 fo ro)), (6, AV.d (DV.sl 4 gs rs)), (7, vi i44)], h := { } }) (Res.code x s)) :
    Ev C5 noO (Task.code 22 false (loopOf Try.prog 22 1) { σ := slots 89 [(0, AV.d (DV.sl 7 f r)), (1, AV.d (DV.sl 2 fo ro)), (6, AV.d (DV.sl 4 gs rs)), (7, vi i)], h := { } }) (.code (x) s) :=
  sym_ev 60 _ [(site 22 41, Dec.int i41), (site 22 42, Dec.b true), (site 22 48, Dec.row (rowS u)), (site 22 53, Dec.row (rowS u2)), (site 22 57, Dec.prim [pbool true]), (site 22 60, Dec.row (rowS u3)), (site 22 63, Dec.b false), (site 22 44, Dec.int i44), (site 22 8001, Dec.loop [0, 1, 6, 7] x s)] _ [] _ (by kernel_rfl) (AllP_cons h1 (AllP_cons h2 (AllP_cons h3 (AllP_cons h4 (AllP_cons h5 (AllP_cons h6 (AllP_cons h7 (AllP_cons h8 (AllP_cons h9 AllP_nil)))))))))
theorem rssb_yt2y (f : Bool) (r : List (List DV)) (fo : Bool) (ro : List (List DV)) (gs : Bool) (rs : List (List DV)) (i : Int) (i41 : Int) (u : S4) (u2 : S4) (u3 : S4) (h1 : ↑(List.length rs) = i41) (h2 : decide (i < i41) = true) (h3 : 0 ≤ i ∧ rs[Int.toNat i]? = some [di u.1, di u.snd.1, di u.snd.snd.1, di u.snd.snd.2]) (h4 : 0 ≤ i ∧ rs[Int.toNat i]? = some [di u2.1, di u2.snd.1, di u2.snd.snd.1, di u2.snd.snd.2]) (h5 : inSpec [PV.one (DV.sl 2 fo ro), PV.agg [di u.1, di u2.snd.1]] = some [PV.one (db false)]) (h6 : 0 ≤ i ∧ rs[Int.toNat i]? = some [di u3.1, di u3.snd.1, di u3.snd.snd.1, di u3.snd.snd.2]) (h7 : decide (u3.snd.2.snd ≥ 0) = true) :
    Ev C5 noO (Task.code 22 false (loopOf Try.prog 22 1) { σ := slots 89 [(0, AV.d (DV.sl 7 f r)), (1, AV.d (DV.sl 2 fo ro)), (6, AV.d (DV.sl 4 gs rs)), (7, vi i)], h := { } }) (.code (X.ret) { σ := slots 89 [(4, vi 8)], h := { } }) :=
  symM_ev (n := 60) (sc := [(site 22 41, Dec.int i41), (site 22 42, Dec.b true), (site 22 48, Dec.row (rowS u)), (site 22 53, Dec.row (rowS u2)), (site 22 57, Dec.prim [pbool false]), (site 22 60, Dec.row (rowS u3)), (site 22 63, Dec.b true)]) (keep := [4]) (sc' := []) (by kernel_rfl) (AllP_cons h1 (AllP_cons h2 (AllP_cons h3 (AllP_cons h4 (AllP_cons h5 (AllP_cons h6 (AllP_cons h7 AllP_nil)))))))
theorem rssb_yt2nL (f : Bool) (r : List (List DV)) (fo : Bool) (ro : List (List DV)) (gs : Bool) (rs : List (List DV)) (i : Int) (i41 : Int) (u : S4) (u2 : S4) (u3 : S4) (i44 : Int) (x : X) (s : St) (h1 : ↑(List.length rs) = i41) (h2 : decide (i < i41) = true) (h3 : 0 ≤ i ∧ rs[Int.toNat i]? = some [di u.1, di u.snd.1, di u.snd.snd.1, di u.snd.snd.2]) (h4 : 0 ≤ i ∧ rs[Int.toNat i]? = some [di u2.1, di u2.snd.1, di u2.snd.snd.1, di u2.snd.snd.2]) (h5 : inSpec [PV.one (DV.sl 2 fo ro), PV.agg [di u.1, di u2.snd.1]] = some [PV.one (db false)]) (h6 : 0 ≤ i ∧ rs[Int.toNat i]? = some [di u3.1, di u3.snd.1, di u3.snd.snd.1, di u3.snd.snd.2]) (h7 : decide (u3.snd.2.snd ≥ 0) = false) (h8 : wr64 (i + 1) = i44) (h9 : Ev C5 noO (Task.code 22 false (loopOf Try.prog 22 1) { σ := slots 89 [(0, AV.d (DV.sl 7 f r)), (1, AV.d (DV.sl 2 fo ro)), (6, AV.d (DV.sl 4 gs rs)), (7, vi i44)], h := { } }) (Res.code x s)) :
    Ev C5 noO (Task.code 22 false (loopOf Try.prog 22 1) { σ := slots 89 [(0, AV.d (DV.sl 7 f r)), (1, AV.d (DV.sl 2 fo ro)), (6, AV.d (DV.sl 4 gs rs)), (7, vi i)], h := { } }) (.code (x) s) :=
  sym_ev 60 _ [(site 22 41, Dec.int i41), (site 22 42, Dec.b true), (site 22 48, Dec.row (rowS u)), (site 22 53, Dec.row (rowS u2)), (site 22 57, Dec.prim [pbool false]), (site 22 60, Dec.row (rowS u3)), (site 22 63, Dec.b false), (site 22 44, Dec.int i44), (site 22 8001, Dec.loop [0, 1, 6, 7] x s)] _ [] _ (by kernel_rfl) (AllP_cons h1 (AllP_cons h2 (AllP_cons h3 (AllP_cons h4 (AllP_cons h5 (AllP_cons h6 (AllP_cons h7 (AllP_cons h8 (AllP_cons h9 AllP_nil)))))))))
theorem rssb_n (f : Bool) (r : List (List DV)) (fo : Bool) (ro : List (List DV)) (gs : Bool) (rs : List (List DV)) (i : Int) (i41 : Int) (h1 : ↑(List.length rs) = i41) (h2 : decide (i < i41) = false) :
    Ev C5 noO (Task.code 22 false (loopOf Try.prog 22 1) { σ := slots 89 [(0, AV.d (DV.sl 7 f r)), (1, AV.d (DV.sl 2 fo ro)), (6, AV.d (DV.sl 4 gs rs)), (7, vi i)], h := { } }) (.code (X.exit 2) { σ := slots 89 [(0, AV.d (DV.sl 7 f r)), (1, AV.d (DV.sl 2 fo ro))], h := { } }) :=
  symM_ev (n := 60) (sc := [(site 22 41, Dec.int i41), (site 22 42, Dec.b false)]) (keep := [0, 1]) (sc' := []) (by kernel_rfl) (AllP_cons h1 (AllP_cons h2 AllP_nil))
theorem rsse_ (f : Bool) (r : List (List DV)) (fo : Bool) (ro : List (List DV)) :
    Ev C5 noO (Task.code 22 false (loopOf Try.prog 22 1) { σ := slots 89 [(0, AV.d (DV.sl 7 f r)), (1, AV.d (DV.sl 2 fo ro)), (6, AV.d (DV.v (Value.slice none 0 0))), (7, vi 0)], h := { } }) (.code (X.exit 2) { σ := slots 89 [(0, AV.d (DV.sl 7 f r)), (1, AV.d (DV.sl 2 fo ro))], h := { } }) :=
  symM_ev (n := 60) (sc := []) (keep := [0, 1]) (sc' := []) (by kernel_rfl) AllP_nil
theorem rss_t1l1t1l1l1 (f : Bool) (r : List (List DV)) (fo : Bool) (ro : List (List DV)) (rs : List (List DV)) (h1 : refRightSpec [PV.one (DV.sl 7 f r)] = some [PV.one (db true)]) (h2 : Ev C5 noO (Task.code 22 false (loopOf Try.prog 22 0) { σ := slots 89 [(0, AV.d (DV.sl 7 f r)), (1, AV.d (DV.sl 2 fo ro)), (5, vi 0)], h := { } }) (Res.code (X.exit 0) { σ := slots 89 [(0, AV.d (DV.sl 7 f r)), (1, AV.d (DV.sl 2 fo ro))], h := { } })) (h3 : refSpansSpec [PV.one (DV.sl 7 f r)] = some [PV.one (DV.v (Value.slice none 0 0))]) (h4 : Ev C5 noO (Task.code 22 false (loopOf Try.prog 22 1) { σ := slots 89 [(0, AV.d (DV.sl 7 f r)), (1, AV.d (DV.sl 2 fo ro)), (6, AV.d (DV.v (Value.slice none 0 0))), (7, vi 0)], h := { } }) (Res.code (X.exit 2) { σ := slots 89 [(0, AV.d (DV.sl 7 f r)), (1, AV.d (DV.sl 2 fo ro))], h := { } })) (h5 : Ev C5 noO (Task.code 22 false (loopOf Try.prog 22 2) { σ := slots 89 [(0, AV.d (DV.sl 7 f r)), (1, AV.d (DV.sl 2 fo ro)), (9, vi 0)], h := { } }) (Res.code (X.exit 4) { σ := slots 89 [], h := { } })) :
    Ev C5 noO (Task.call 22 [AV.d (DV.sl 7 f r), AV.d (DV.sl 2 fo ro)] { }) (.val (vi 0) { }) :=
  sym_ev 80 _ [(site 22 12, Dec.prim [pbool true]), (site 22 8001, Dec.loop [0, 1, 5] (X.exit 0) { σ := slots 89 [(0, AV.d (DV.sl 7 f r)), (1, AV.d (DV.sl 2 fo ro))], h := { } }), (site 22 38, Dec.prim [nilPV]), (site 22 8001, Dec.loop [0, 1, 6, 7] (X.exit 2) { σ := slots 89 [(0, AV.d (DV.sl 7 f r)), (1, AV.d (DV.sl 2 fo ro))], h := { } }), (site 22 8001, Dec.loop [0, 1, 9] (X.exit 4) { σ := slots 89 [], h := { } })] _ [] _ (by kernel_rfl) (AllP_cons h1 (AllP_cons h2 (AllP_cons h3 (AllP_cons h4 (AllP_cons h5 AllP_nil)))))
theorem rss_t1l1t1l1l2 (f : Bool) (r : List (List DV)) (fo : Bool) (ro : List (List DV)) (rs : List (List DV)) (h1 : refRightSpec [PV.one (DV.sl 7 f r)] = some [PV.one (db true)]) (h2 : Ev C5 noO (Task.code 22 false (loopOf Try.prog 22 0) { σ := slots 89 [(0, AV.d (DV.sl 7 f r)), (1, AV.d (DV.sl 2 fo ro)), (5, vi 0)], h := { } }) (Res.code (X.exit 0) { σ := slots 89 [(0, AV.d (DV.sl 7 f r)), (1, AV.d (DV.sl 2 fo ro))], h := { } })) (h3 : refSpansSpec [PV.one (DV.sl 7 f r)] = some [PV.one (DV.v (Value.slice none 0 0))]) (h4 : Ev C5 noO (Task.code 22 false (loopOf Try.prog 22 1) { σ := slots 89 [(0, AV.d (DV.sl 7 f r)), (1, AV.d (DV.sl 2 fo ro)), (6, AV.d (DV.v (Value.slice none 0 0))), (7, vi 0)], h := { } }) (Res.code (X.exit 2) { σ := slots 89 [(0, AV.d (DV.sl 7 f r)), (1, AV.d (DV.sl 2 fo ro))], h := { } })) (h5 : Ev C5 noO (Task.code 22 false (loopOf Try.prog 22 2) { σ := slots 89 [(0, AV.d (DV.sl 7 f r)), (1, AV.d (DV.sl 2 fo ro)), (9, vi 0)], h := { } }) (Res.code X.ret { σ := slots 89 [(4, vi 9)], h := { } })) :
    Ev C5 noO (Task.call 22 [AV.d (DV.sl 7 f r), AV.d (DV.sl 2 fo ro)] { }) (.val (vi 9) { }) :=
  sym_ev 80 _ [(site 22 12, Dec.prim [pbool true]), (site 22 8001, Dec.loop [0, 1, 5] (X.exit 0) { σ := slots 89 [(0, AV.d (DV.sl 7 f r)), (1, AV.d (DV.sl 2 fo ro))], h := { } }), (site 22 38, Dec.prim [nilPV]), (site 22 8001, Dec.loop [0, 1, 6, 7] (X.exit 2) { σ := slots 89 [(0, AV.d (DV.sl 7 f r)), (1, AV.d (DV.sl 2 fo ro))], h := { } }), (site 22 8001, Dec.loop [0, 1, 9] X.ret { σ := slots 89 [(4, vi 9)], h := { } })] _ [] _ (by kernel_rfl) (AllP_cons h1 (AllP_cons h2 (AllP_cons h3 (AllP_cons h4 (AllP_cons h5 AllP_nil)))))
theorem rss_t1l1t1l2 (f : Bool) (r : List (List DV)) (fo : Bool) (ro : List (List DV)) (rs : List (List DV)) (h1 : refRightSpec [PV.one (DV.sl 7 f r)] = some [PV.one (db true)]) (h2 : Ev C5 noO (Task.code 22 false (loopOf Try.prog 22 0) { σ := slots 89 [(0, AV.d (DV.sl 7 f r)), (1, AV.d (DV.sl 2 fo ro)), (5, vi 0)], h := { } }) (Res.code (X.exit 0) { σ := slots 89 [(0, AV.d (DV.sl 7 f r)), (1, AV.d (DV.sl 2 fo ro))], h := { } })) (h3 : refSpansSpec [PV.one (DV.sl 7 f r)] = some [PV.one (DV.v (Value.slice none 0 0))]) (h4 : Ev C5 noO (Task.code 22 false (loopOf Try.prog 22 1) { σ := slots 89 [(0, AV.d (DV.sl 7 f r)), (1, AV.d (DV.sl 2 fo ro)), (6, AV.d (DV.v (Value.slice none 0 0))), (7, vi 0)], h := { } }) (Res.code X.ret { σ := slots 89 [(4, vi 8)], h := { } })) :
    Ev C5 noO (Task.call 22 [AV.d (DV.sl 7 f r), AV.d (DV.sl 2 fo ro)] { }) (.val (vi 8) { }) :=
  sym_ev 80 _ [(site 22 12, Dec.prim [pbool true]), (site 22 8001, Dec.loop [0, 1, 5] (X.exit 0) { σ := slots 89 [(0, AV.d (DV.sl 7 f r)), (1, AV.d (DV.sl 2 fo ro))], h := { } }), (site 22 38, Dec.prim [nilPV]), (site 22 8001, Dec.loop [0, 1, 6, 7] X.ret { σ := slots 89 [(4, vi 8)], h := { } })] _ [] _ (by kernel_rfl) (AllP_cons h1 (AllP_cons h2 (AllP_cons h3 (AllP_cons h4 AllP_nil))))
theorem rss_t1l1t2l1l1 (f : Bool) (r : List (List DV)) (fo : Bool) (ro : List (List DV)) (rs : List (List DV)) (h1 : refRightSpec [PV.one (DV.sl 7 f r)] = some [PV.one (db true)]) (h2 : Ev C5 noO (Task.code 22 false (loopOf Try.prog 22 0) { σ := slots 89 [(0, AV.d (DV.sl 7 f r)), (1, AV.d (DV.sl 2 fo ro)), (5, vi 0)], h := { } }) (Res.code (X.exit 0) { σ := slots 89 [(0, AV.d (DV.sl 7 f r)), (1, AV.d (DV.sl 2 fo ro))], h := { } })) (h3 : refSpansSpec [PV.one (DV.sl 7 f r)] = some [PV.one (DV.sl 4 false rs)]) (h4 : Ev C5 noO (Task.code 22 false (loopOf Try.prog 22 1) { σ := slots 89 [(0, AV.d (DV.sl 7 f r)), (1, AV.d (DV.sl 2 fo ro)), (6, AV.d (DV.sl 4 false rs)), (7, vi 0)], h := { } }) (Res.code (X.exit 2) { σ := slots 89 [(0, AV.d (DV.sl 7 f r)), (1, AV.d (DV.sl 2 fo ro))], h := { } })) (h5 : Ev C5 noO (Task.code 22 false (loopOf Try.prog 22 2) { σ := slots 89 [(0, AV.d (DV.sl 7 f r)), (1, AV.d (DV.sl 2 fo ro)), (9, vi 0)], h := { } }) (Res.code (X.exit 4) { σ := slots 89 [], h := { } })) :
    Ev C5 noO (Task.call 22 [AV.d (DV.sl 7 f r), AV.d (DV.sl 2 fo ro)] { }) (.val (vi 0) { }) :=
  sym_ev 80 _ [(site 22 12, Dec.prim [pbool true]), (site 22 8001, Dec.loop [0, 1, 5] (X.exit 0) { σ := slots 89 [(0, AV.d (DV.sl 7 f r)), (1, AV.d (DV.sl 2 fo ro))], h := { } }), (site 22 38, Dec.prim [PV.one (DV.sl 4 false rs)]), (site 22 8001, Dec.loop [0, 1, 6, 7] (X.exit 2) { σ := slots 89 [(0, AV.d (DV.sl 7 f r)), (1, AV.d (DV.sl 2 fo ro))], h := { } }), (site 22 8001, Dec.loop [0, 1, 9] (X.exit 4) { σ := slots 89 [], h := { } })] _ [] _ (by kernel_rfl) (AllP_cons h1 (AllP_cons h2 (AllP_cons h3 (AllP_cons h4 (AllP_cons h5 AllP_nil)))))
theorem rss_t1l1t2l1l2 (f : Bool) (r : List (List DV)) (fo : Bool) (ro : List (List DV)) (rs : List (List DV)) (h1 : refRightSpec [PV.one (DV.sl 7 f r)] = some [PV.one (db true)]) (h2 : Ev C5 noO (Task.code 22 false (loopOf Try.prog 22 0) { σ := slots 89 [(0, AV.d (DV.sl 7 f r)), (1, AV.d (DV.sl 2 fo ro)), (5, vi 0)], h := { } }) (Res.code (X.exit 0) { σ := slots 89 [(0, AV.d (DV.sl 7 f r)), (1, AV.d (DV.sl 2 fo ro))], h := { } })) (h3 : refSpansSpec [PV.one (DV.sl 7 f r)] = some [PV.one (DV.sl 4 false rs)]) (h4 : Ev C5 noO (Task.code 22 false (loopOf Try.prog 22 1) { σ := slots 89 [(0, AV.d (DV.sl 7 f r)), (1, AV.d (DV.sl 2 fo ro)), (6, AV.d (DV.sl 4 false rs)), (7, vi 0)], h := { } }) (Res.code (X.exit 2) { σ := slots 89 [(0, AV.d (DV.sl 7 f r)), (1, AV.d (DV.sl 2 fo ro))], h := { } })) (h5 : Ev C5 noO (Task.code 22 false (loopOf Try.prog 22 2) { σ := slots 89 [(0, AV.d (DV.sl 7 f r)), (1, AV.d (DV.sl 2 fo ro)), (9, vi 0)], h := { } }) (Res.code X.ret { σ := slots 89 [(4, vi 9)], h := { } })) :
    Ev C5 noO (Task.call 22 [AV.d (DV.sl 7 f r), AV.d (DV.sl 2 fo ro)] { }) (.val (vi 9) { }) :=
  sym_ev 80 _ [(site 22 12, Dec.prim [pbool true]), (site 22 8001, Dec.loop [0, 1, 5] (X.exit 0) { σ := slots 89 [(0, AV.d (DV.sl 7 f r)), (1, AV.d (DV.sl 2 fo ro))], h := { } }), (site 22 38, Dec.prim [PV.one (DV.sl 4 false rs)]), (site 22 8001, Dec.loop [0, 1, 6, 7] (X.exit 2) { σ := slots 89 [(0, AV.d (DV.sl 7 f r)), (1, AV.d (DV.sl 2 fo ro))], h := { } }), (site 22 8001, Dec.loop [0, 1, 9] X.ret { σ := slots 89 [(4, vi 9)], h := { } })] _ [] _ (by kernel_rfl) (AllP_cons h1 (AllP_cons h2 (AllP_cons h3 (AllP_cons h4 (AllP_cons h5 AllP_nil)))))
theorem rss_t1l1t2l2 (f : Bool) (r : List (List DV)) (fo : Bool) (ro : List (List DV)) (rs : List (List DV)) (h1 : refRightSpec [PV.one (DV.sl 7 f r)] = some [PV.one (db true)]) (h2 : Ev C5 noO (Task.code 22 false (loopOf Try.prog 22 0) { σ := slots 89 [(0, AV.d (DV.sl 7 f r)), (1, AV.d (DV.sl 2 fo ro)), (5, vi 0)], h := { } }) (Res.code (X.exit 0) { σ := slots 89 [(0, AV.d (DV.sl 7 f r)), (1, AV.d (DV.sl 2 fo ro))], h := { } })) (h3 : refSpansSpec [PV.one (DV.sl 7 f r)] = some [PV.one (DV.sl 4 false rs)]) (h4 : Ev C5 noO (Task.code 22 false (loopOf Try.prog 22 1) { σ := slots 89 [(0, AV.d (DV.sl 7 f r)), (1, AV.d (DV.sl 2 fo ro)), (6, AV.d (DV.sl 4 false rs)), (7, vi 0)], h := { } }) (Res.code X.ret { σ := slots 89 [(4, vi 8)], h := { } })) :
    Ev C5 noO (Task.call 22 [AV.d (DV.sl 7 f r), AV.d (DV.sl 2 fo ro)] { }) (.val (vi 8) { }) :=
  sym_ev 80 _ [(site 22 12, Dec.prim [pbool true]), (site 22 8001, Dec.loop [0, 1, 5] (X.exit 0) { σ := slots 89 [(0, AV.d (DV.sl 7 f r)), (1, AV.d (DV.sl 2 fo ro))], h := { } }), (site 22 38, Dec.prim [PV.one (DV.sl 4 false rs)]), (site 22 8001, Dec.loop [0, 1, 6, 7] X.ret { σ := slots 89 [(4, vi 8)], h := { } })] _ [] _ (by kernel_rfl) (AllP_cons h1 (AllP_cons h2 (AllP_cons h3 (AllP_cons h4 AllP_nil))))
theorem rss_t1l2 (f : Bool) (r : List (List DV)) (fo : Bool) (ro : List (List DV)) (rs : List (List DV)) (h1 : refRightSpec [PV.one (DV.sl 7 f r)] = some [PV.one (db true)]) (h2 : Ev C5 noO (Task.code 22 false (loopOf Try.prog 22 0) { σ := slots 89 [(0, AV.d (DV.sl 7 f r)), (1, AV.d (DV.sl 2 fo ro)), (5, vi 0)], h := { } }) (Res.code X.ret { σ := slots 89 [(4, vi 1)], h := { } })) :
    Ev C5 noO (Task.call 22 [AV.d (DV.sl 7 f r), AV.d (DV.sl 2 fo ro)] { }) (.val (vi 1) { }) :=
  sym_ev 80 _ [(site 22 12, Dec.prim [pbool true]), (site 22 8001, Dec.loop [0, 1, 5] X.ret { σ := slots 89 [(4, vi 1)], h := { } })] _ [] _ (by kernel_rfl) (AllP_cons h1 (AllP_cons h2 AllP_nil))
theorem rss_t2 (f : Bool) (r : List (List DV)) (fo : Bool) (ro : List (List DV)) (rs : List (List DV)) (h1 : refRightSpec [PV.one (DV.sl 7 f r)] = some [PV.one (db false)]) :
    Ev C5 noO (Task.call 22 [AV.d (DV.sl 7 f r), AV.d (DV.sl 2 fo ro)] { }) (.val (vi 4) { }) :=
  sym_ev 80 _ [(site 22 12, Dec.prim [pbool false])] _ [] _ (by kernel_rfl) (AllP_cons h1 AllP_nil)
theorem rsnb_yy (f : Bool) (r : List (List DV)) (gs : Bool) (rs : List (List DV)) (i : Int) (i41 : Int) (u : S4) (u2 : S4) (u3 : S4) (h1 : ↑(List.length rs) = i41) (h2 : decide (i < i41) = true) (h3 : 0 ≤ i ∧ rs[Int.toNat i]? = some [di u.1, di u.snd.1, di u.snd.snd.1, di u.snd.snd.2]) (h4 : 0 ≤ i ∧ rs[Int.toNat i]? = some [di u2.1, di u2.snd.1, di u2.snd.snd.1, di u2.snd.snd.2]) (h5 : 0 ≤ i ∧ rs[Int.toNat i]? = some [di u3.1, di u3.snd.1, di u3.snd.snd.1, di u3.snd.snd.2]) (h6 : decide (u3.snd.2.snd ≥ 0) = true) :
    Ev C5 noO (Task.code 22 false (loopOf Try.prog 22 1) { σ := slots 89 [(0, AV.d (DV.sl 7 f r)), (1, AV.d (DV.v (Value.slice none 0 0))), (6, AV.d (DV.sl 4 gs rs)), (7, vi i)], h := { } }) (.code (X.ret) { σ := slots 89 [(4, vi 8)], h := { } }) :=
  symM_ev (n := 60) (sc := [(site 22 41, Dec.int i41), (site 22 42, Dec.b true), (site 22 48, Dec.row (rowS u)), (site 22 53, Dec.row (rowS u2)), (site 22 60, Dec.row (rowS u3)), (site 22 63, Dec.b true)]) (keep := [4]) (sc' := []) (by kernel_rfl) (AllP_cons h1 (AllP_cons h2 (AllP_cons h3 (AllP_cons h4 (AllP_cons h5 (AllP_cons h6 AllP_nil))))))
theorem rsnb_ynL (f : Bool) (r : List (List DV)) (gs : Bool) (rs : List (List DV)) (i : Int) (i41 : Int) (u : S4) (u2 : S4) (u3 : S4) (i44 : Int) (x : X) (s : St) (h1 : ↑(List.length rs) = i41) (h2 : decide (i < i41) = true) (h3 : 0 ≤ i ∧ rs[Int.toNat i]? = some [di u.1, di u.snd.1, di u.snd.snd.1, di u.snd.snd.2]) (h4 : 0 ≤ i ∧ rs[Int.toNat i]? = some [di u2.1, di u2.snd.1, di u2.snd.snd.1, di u2.snd.snd.2]) (h5 : 0 ≤ i ∧ rs[Int.toNat i]? = some [di u3.1, di u3.snd.1, di u3.snd.snd.1, di u3.snd.snd.2]) (h6 : decide (u3.snd.2.snd ≥ 0) = false) (h7 : wr64 (i + 1) = i44) (h8 : Ev C5 noO (Task.code 22 false (loopOf Try.prog 22 1) { σ := slots 89 [(0, AV.d (DV.sl 7 f r)), (1, AV.d (DV.v (Value.slice none 0 0))), (6, AV.d (DV.sl 4 gs rs)), (7, vi i44)], h := { } }) (Res.code x s)) :
    Ev C5 noO (Task.code 22 false (loopOf Try.prog 22 1) { σ := slots 89 [(0, AV.d (DV.sl 7 f r)), (1, AV.d (DV.v (Value.slice none 0 0))), (6, AV.d (DV.sl 4 gs rs)), (7, vi i)], h := { } }) (.code (x) s) :=
  sym_ev 60 _ [(site 22 41, Dec.int i41), (site 22 42, Dec.b true), (site 22 48, Dec.row (rowS u)), (site 22 53, Dec.row (rowS u2)), (site 22 60, Dec.row (rowS u3)), (site 22 63, Dec.b false), (site 22 44, Dec.int i44), (site 22 8001, Dec.loop [0, 1, 6, 7] x s)] _ [] _ (by kernel_rfl) (AllP_cons h1 (AllP_cons h2 (AllP_cons h3 (AllP_cons h4 (AllP_cons h5 (AllP_cons h6 (AllP_cons h7 (AllP_cons h8 AllP_nil))))))))
theorem rsnb_n (f : Bool) (r : List (List DV)) (gs : Bool) (rs : List (List DV)) (i : Int) (i41 : Int) (h1 : ↑(List.length rs) = i41) (h2 : decide (i < i41) = false) :
    Ev C5 noO (Task.code 22 false (loopOf Try.prog 22 1) { σ := slots 89 [(0, AV.d (DV.sl 7 f r)), (1, AV.d (DV.v (Value.slice none 0 0))), (6, AV.d (DV.sl 4 gs rs)), (7, vi i)], h := { } }) (.code (X.exit 2) { σ := slots 89 [(0, AV.d (DV.sl 7 f r)), (1, AV.d (DV.v (Value.slice none 0 0)))], h := { } }) :=
  symM_ev (n := 60) (sc := [(site 22 41, Dec.int i41), (site 22 42, Dec.b false)]) (keep := [0, 1]) (sc' := []) (by kernel_rfl) (AllP_cons h1 (AllP_cons h2 AllP_nil))
theorem rsne_ (f : Bool) (r : List (List DV)) :
    Ev C5 noO (Task.code 22 false (loopOf Try.prog 22 1) { σ := slots 89 [(0, AV.d (DV.sl 7 f r)), (1, AV.d (DV.v (Value.slice none 0 0))), (6, AV.d (DV.v (Value.slice none 0 0))), (7, vi 0)], h := { } }) (.code (X.exit 2) { σ := slots 89 [(0, AV.d (DV.sl 7 f r)), (1, AV.d (DV.v (Value.slice none 0 0)))], h := { } }) :=
  symM_ev (n := 60) (sc := []) (keep := [0, 1]) (sc' := []) (by kernel_rfl) AllP_nil
theorem rsnA_ (f : Bool) (r : List (List DV)) :
    Ev C5 noO (Task.code 22 false (loopOf Try.prog 22 0) { σ := slots 89 [(0, AV.d (DV.sl 7 f r)), (1, AV.d (DV.v (Value.slice none 0 0))), (5, vi 0)], h := { } }) (.code (X.exit 0) { σ := slots 89 [(0, AV.d (DV.sl 7 f r)), (1, AV.d (DV.v (Value.slice none 0 0)))], h := { } }) :=
  symM_ev (n := 60) (sc := []) (keep := [0, 1]) (sc' := []) (by kernel_rfl) AllP_nil
theorem rsnC_ (f : Bool) (r : List (List DV)) :
    Ev C5 noO (Task.code 22 false (loopOf Try.prog 22 2) { σ := slots 89 [(0, AV.d (DV.sl 7 f r)), (1, AV.d (DV.v (Value.slice none 0 0))), (9, vi 0)], h := { } }) (.code (X.exit 4) { σ := slots 89 [], h := { } }) :=
  symM_ev (n := 60) (sc := []) (keep := []) (sc' := []) (by kernel_rfl) AllP_nil
theorem rsn_t1l1t1l1l1 (f : Bool) (r : List (List DV)) (rs : List (List DV)) (h1 : refRightSpec [PV.one (DV.sl 7 f r)] = some [PV.one (db true)]) (h2 : Ev C5 noO (Task.code 22 false (loopOf Try.prog 22 0) { σ := slots 89 [(0, AV.d (DV.sl 7 f r)), (1, AV.d (DV.v (Value.slice none 0 0))), (5, vi 0)], h := { } }) (Res.code (X.exit 0) { σ := slots 89 [(0, AV.d (DV.sl 7 f r)), (1, AV.d (DV.v (Value.slice none 0 0)))], h := { } })) (h3 : refSpansSpec [PV.one (DV.sl 7 f r)] = some [PV.one (DV.v (Value.slice none 0 0))]) (h4 : Ev C5 noO (Task.code 22 false (loopOf Try.prog 22 1) { σ := slots 89 [(0, AV.d (DV.sl 7 f r)), (1, AV.d (DV.v (Value.slice none 0 0))), (6, AV.d (DV.v (Value.slice none 0 0))), (7, vi 0)], h := { } }) (Res.code (X.exit 2) { σ := slots 89 [(0, AV.d (DV.sl 7 f r)), (1, AV.d (DV.v (Value.slice none 0 0)))], h := { } })) (h5 : Ev C5 noO (Task.code 22 false (loopOf Try.prog 22 2) { σ := slots 89 [(0, AV.d (DV.sl 7 f r)), (1, AV.d (DV.v (Value.slice none 0 0))), (9, vi 0)], h := { } }) (Res.code (X.exit 4) { σ := slots 89 [], h := { } })) :
    Ev C5 noO (Task.call 22 [AV.d (DV.sl 7 f r), AV.d (DV.v (Value.slice none 0 0))] { }) (.val (vi 0) { }) :=
  sym_ev 80 _ [(site 22 12, Dec.prim [pbool true]), (site 22 8001, Dec.loop [0, 1, 5] (X.exit 0) { σ := slots 89 [(0, AV.d (DV.sl 7 f r)), (1, AV.d (DV.v (Value.slice none 0 0)))], h := { } }), (site 22 38, Dec.prim [nilPV]), (site 22 8001, Dec.loop [0, 1, 6, 7] (X.exit 2) { σ := slots 89 [(0, AV.d (DV.sl 7 f r)), (1, AV.d (DV.v (Value.slice none 0 0)))], h := { } }), (site 22 8001, Dec.loop [0, 1, 9] (X.exit 4) { σ := slots 89 [], h := { } })] _ [] _ (by kernel_rfl) (AllP_cons h1 (AllP_cons h2 (AllP_cons h3 (AllP_cons h4 (AllP_cons h5 AllP_nil)))))
theorem rsn_t1l1t1l1l2 (f : Bool) (r : List (List DV)) (rs : List (List DV)) (h1 : refRightSpec [PV.one (DV.sl 7 f r)] = some [PV.one (db true)]) (h2 : Ev C5 noO (Task.code 22 false (loopOf Try.prog 22 0) { σ := slots 89 [(0, AV.d (DV.sl 7 f r)), (1, AV.d (DV.v (Value.slice none 0 0))), (5, vi 0)], h := { } }) (Res.code (X.exit 0) { σ := slots 89 [(0, AV.d (DV.sl 7 f r)), (1, AV.d (DV.v (Value.slice none 0 0)))], h := { } })) (h3 : refSpansSpec [PV.one (DV.sl 7 f r)] = some [PV.one (DV.v (Value.slice none 0 0))]) (h4 : Ev C5 noO (Task.code 22 false (loopOf Try.prog 22 1) { σ := slots 89 [(0, AV.d (DV.sl 7 f r)), (1, AV.d (DV.v (Value.slice none 0 0))), (6, AV.d (DV.v (Value.slice none 0 0))), (7, vi 0)], h := { } }) (Res.code (X.exit 2) { σ := slots 89 [(0, AV.d (DV.sl 7 f r)), (1, AV.d (DV.v (Value.slice none 0 0)))], h := { } })) (h5 : Ev C5 noO (Task.code 22 false (loopOf Try.prog 22 2) { σ := slots 89 [(0, AV.d (DV.sl 7 f r)), (1, AV.d (DV.v (Value.slice none 0 0))), (9, vi 0)], h := { } }) (Res.code X.ret { σ := slots 89 [(4, vi 9)], h := { } })) :
    Ev C5 noO (Task.call 22 [AV.d (DV.sl 7 f r), AV.d (DV.v (Value.slice none 0 0))] { }) (.val (vi 9) { }) :=
  sym_ev 80 _ [(site 22 12, Dec.prim [pbool true]), (site 22 8001, Dec.loop [0, 1, 5] (X.exit 0) { σ := slots 89 [(0, AV.d (DV.sl 7 f r)), (1, AV.d (DV.v (Value.slice none 0 0)))], h := { } }), (site 22 38, Dec.prim [nilPV]), (site 22 8001, Dec.loop [0, 1, 6, 7] (X.exit 2) { σ := slots 89 [(0, AV.d (DV.sl 7 f r)), (1, AV.d (DV.v (Value.slice none 0 0)))], h := { } }), (site 22 8001, Dec.loop [0, 1, 9] X.ret { σ := slots 89 [(4, vi 9)], h := { } })] _ [] _ (by kernel_rfl) (AllP_cons h1 (AllP_cons h2 (AllP_cons h3 (AllP_cons h4 (AllP_cons h5 AllP_nil)))))
theorem rsn_t1l1t1l2 (f : Bool) (r : List (List DV)) (rs : List (List DV)) (h1 : refRightSpec [PV.one (DV.sl 7 f r)] = some [PV.one (db true)]) (h2 : Ev C5 noO (Task.code 22 false (loopOf Try.prog 22 0) { σ := slots 89 [(0, AV.d (DV.sl 7 f r)), (1, AV.d (DV.v (Value.slice none 0 0))), (5, vi 0)], h := { } }) (Res.code (X.exit 0) { σ := slots 89 [(0, AV.d (DV.sl 7 f r)), (1, AV.d (DV.v (Value.slice none 0 0)))], h := { } })) (h3 : refSpansSpec [PV.one (DV.sl 7 f r)] = some [PV.one (DV.v (Value.slice none 0 0))]) (h4 : Ev C5 noO (Task.code 22 false (loopOf Try.prog 22 1) { σ := slots 89 [(0, AV.d (DV.sl 7 f r)), (1, AV.d (DV.v (Value.slice none 0 0))), (6, AV.d (DV.v (Value.slice none 0 0))), (7, vi 0)], h := { } }) (Res.code X.ret { σ := slots 89 [(4, vi 8)], h := { } })) :
    Ev C5 noO (Task.call 22 [AV.d (DV.sl 7 f r), AV.d (DV.v (Value.slice none 0 0))] { }) (.val (vi 8) { }) :=
  sym_ev 80 _ [(site 22 12, Dec.prim [pbool true]), (site 22 8001, Dec.loop [0, 1, 5] (X.exit 0) { σ := slots 89 [(0, AV.d (DV.sl 7 f r)), (1, AV.d (DV.v (Value.slice none 0 0)))], h := { } }), (site 22 38, Dec.prim [nilPV]), (site 22 8001, Dec.loop [0, 1, 6, 7] X.ret { σ := slots 89 [(4, vi 8)], h := { } })] _ [] _ (by kernel_rfl) (AllP_cons h1 (AllP_cons h2 (AllP_cons h3 (AllP_cons h4 AllP_nil))))
theorem rsn_t1l1t2l1l1 (f : Bool) (r : List (List DV)) (rs : List (List DV)) (h1 : refRightSpec [PV.one (DV.sl 7 f r)] = some [PV.one (db true)]) (h2 : Ev C5 noO (Task.code 22 false (loopOf Try.prog 22 0) { σ := slots 89 [(0, AV.d (DV.sl 7 f r)), (1, AV.d (DV.v (Value.slice none 0 0))), (5, vi 0)], h := { } }) (Res.code (X.exit 0) { σ := slots 89 [(0, AV.d (DV.sl 7 f r)), (1, AV.d (DV.v (Value.slice none 0 0)))], h := { } })) (h3 : refSpansSpec [PV.one (DV.sl 7 f r)] = some [PV.one (DV.sl 4 false rs)]) (h4 : Ev C5 noO (Task.code 22 false (loopOf Try.prog 22 1) { σ := slots 89 [(0, AV.d (DV.sl 7 f r)), (1, AV.d (DV.v (Value.slice none 0 0))), (6, AV.d (DV.sl 4 false rs)), (7, vi 0)], h := { } }) (Res.code (X.exit 2) { σ := slots 89 [(0, AV.d (DV.sl 7 f r)), (1, AV.d (DV.v (Value.slice none 0 0)))], h := { } })) (h5 : Ev C5 noO (Task.code 22 false (loopOf Try.prog 22 2) { σ := slots 89 [(0, AV.d (DV.sl 7 f r)), (1, AV.d (DV.v (Value.slice none 0 0))), (9, vi 0)], h := { } }) (Res.code (X.exit 4) { σ := slots 89 [], h := { } })) :
    Ev C5 noO (Task.call 22 [AV.d (DV.sl 7 f r), AV.d (DV.v (Value.slice none 0 0))] { }) (.val (vi 0) { }) :=
  sym_ev 80 _ [(site 22 12, Dec.prim [pbool true]), (site 22 8001, Dec.loop [0, 1, 5] (X.exit 0) { σ := slots 89 [(0, AV.d (DV.sl 7 f r)), (1, AV.d (DV.v (Value.slice none 0 0)))], h := { } }), (site 22 38, Dec.prim [PV.one (DV.sl 4 false rs)]), (site 22 8001, Dec.loop [0, 1, 6, 7] (X.exit 2) { σ := slots 89 [(0, AV.d (DV.sl 7 f r)), (1, AV.d (DV.v (Value.slice none 0 0)))], h := { } }), (site 22 8001, Dec.loop [0, 1, 9] (X.exit 4) { σ := slots 89 [], h := { } })] _ [] _ (by kernel_rfl) (AllP_cons h1 (AllP_cons h2 (AllP_cons h3 (AllP_cons h4 (AllP_cons h5 AllP_nil)))))
theorem rsn_t1l1t2l1l2 (f : Bool) (r : List (List DV)) (rs : List (List DV)) (h1 : refRightSpec [PV.one (DV.sl 7 f r)] = some [PV.one (db true)]) (h2 : Ev C5 noO (Task.code 22 false (loopOf Try.prog 22 0) { σ := slots 89 [(0, AV.d (DV.sl 7 f r)), (1, AV.d (DV.v (Value.slice none 0 0))), (5, vi 0)], h := { } }) (Res.code (X.exit 0) { σ := slots 89 [(0, AV.d (DV.sl 7 f r)), (1, AV.d (DV.v (Value.slice none 0 0)))], h := { } })) (h3 : refSpansSpec [PV.one (DV.sl 7 f r)] = some [PV.one (DV.sl 4 false rs)]) (h4 : Ev C5 noO (Task.code 22 false (loopOf Try.prog 22 1) { σ := slots 89 [(0, AV.d (DV.sl 7 f r)), (1, AV.d (DV.v (Value.slice none 0 0))), (6, AV.d (DV.sl 4 false rs)), (7, vi 0)], h := { } }) (Res.code (X.exit 2) { σ := slots 89 [(0, AV.d (DV.sl 7 f r)), (1, AV.d (DV.v (Value.slice none 0 0)))], h := { } })) (h5 : Ev C5 noO (Task.code 22 false (loopOf Try.prog 22 2) { σ := slots 89 [(0, AV.d (DV.sl 7 f r)), (1, AV.d (DV.v (Value.slice none 0 0))), (9, vi 0)], h := { } }) (Res.code X.ret { σ := slots 89 [(4, vi 9)], h := { } })) :
    Ev C5 noO (Task.call 22 [AV.d (DV.sl 7 f r), AV.d (DV.v (Value.slice none 0 0))] { }) (.val (vi 9) { }) :=
  sym_ev 80 _ [(site 22 12, Dec.prim [pbool true]), (site 22 8001, Dec.loop [0, 1, 5] (X.exit 0) { σ := slots 89 [(0, AV.d (DV.sl 7 f r)), (1, AV.d (DV.v (Value.slice none 0 0)))], h := { } }), (site 22 38, Dec.prim [PV.one (DV.sl 4 false rs)]), (site 22 8001, Dec.loop [0, 1, 6, 7] (X.exit 2) { σ := slots 89 [(0, AV.d (DV.sl 7 f r)), (1, AV.d (DV.v (Value.slice none 0 0)))], h := { } }), (site 22 8001, Dec.loop [0, 1, 9] X.ret { σ := slots 89 [(4, vi 9)], h := { } })] _ [] _ (by kernel_rfl) (AllP_cons h1 (AllP_cons h2 (AllP_cons h3 (AllP_cons h4 (AllP_cons h5 AllP_nil)))))
theorem rsn_t1l1t2l2 (f : Bool) (r : List (List DV)) (rs : List (List DV)) (h1 : refRightSpec [PV.one (DV.sl 7 f r)] = some [PV.one (db true)]) (h2 : Ev C5 noO (Task.code 22 false (loopOf Try.prog 22 0) { σ := slots 89 [(0, AV.d (DV.sl 7 f r)), (1, AV.d (DV.v (Value.slice none 0 0))), (5, vi 0)], h := { } }) (Res.code (X.exit 0) { σ := slots 89 [(0, AV.d (DV.sl 7 f r)), (1, AV.d (DV.v (Value.slice none 0 0)))], h := { } })) (h3 : refSpansSpec [PV.one (DV.sl 7 f r)] = some [PV.one (DV.sl 4 false rs)]) (h4 : Ev C5 noO (Task.code 22 false (loopOf Try.prog 22 1) { σ := slots 89 [(0, AV.d (DV.sl 7 f r)), (1, AV.d (DV.v (Value.slice none 0 0))), (6, AV.d (DV.sl 4 false rs)), (7, vi 0)], h := { } }) (Res.code X.ret { σ := slots 89 [(4, vi 8)], h := { } })) :
    Ev C5 noO (Task.call 22 [AV.d (DV.sl 7 f r), AV.d (DV.v (Value.slice none 0 0))] { }) (.val (vi 8) { }) :=
  sym_ev 80 _ [(site 22 12, Dec.prim [pbool true]), (site 22 8001, Dec.loop [0, 1, 5] (X.exit 0) { σ := slots 89 [(0, AV.d (DV.sl 7 f r)), (1, AV.d (DV.v (Value.slice none 0 0)))], h := { } }), (site 22 38, Dec.prim [PV.one (DV.sl 4 false rs)]), (site 22 8001, Dec.loop [0, 1, 6, 7] X.ret { σ := slots 89 [(4, vi 8)], h := { } })] _ [] _ (by kernel_rfl) (AllP_cons h1 (AllP_cons h2 (AllP_cons h3 (AllP_cons h4 AllP_nil))))
theorem rsn_t1l2 (f : Bool) (r : List (List DV)) (rs : List (List DV)) (h1 : refRightSpec [PV.one (DV.sl 7 f r)] = some [PV.one (db true)]) (h2 : Ev C5 noO (Task.code 22 false (loopOf Try.prog 22 0) { σ := slots 89 [(0, AV.d (DV.sl 7 f r)), (1, AV.d (DV.v (Value.slice none 0 0))), (5, vi 0)], h := { } }) (Res.code X.ret { σ := slots 89 [(4, vi 1)], h := { } })) :
    Ev C5 noO (Task.call 22 [AV.d (DV.sl 7 f r), AV.d (DV.v (Value.slice none 0 0))] { }) (.val (vi 1) { }) :=
  sym_ev 80 _ [(site 22 12, Dec.prim [pbool true]), (site 22 8001, Dec.loop [0, 1, 5] X.ret { σ := slots 89 [(4, vi 1)], h := { } })] _ [] _ (by kernel_rfl) (AllP_cons h1 (AllP_cons h2 AllP_nil))
theorem rsn_t2 (f : Bool) (r : List (List DV)) (rs : List (List DV)) (h1 : refRightSpec [PV.one (DV.sl 7 f r)] = some [PV.one (db false)]) :
    Ev C5 noO (Task.call 22 [AV.d (DV.sl 7 f r), AV.d (DV.v (Value.slice none 0 0))] { }) (.val (vi 4) { }) :=
  sym_ev 80 _ [(site 22 12, Dec.prim [pbool false])] _ [] _ (by kernel_rfl) (AllP_cons h1 AllP_nil)
theorem rnsb_yt1yL (fo : Bool) (ro : List (List DV)) (gs : Bool) (rs : List (List DV)) (i : Int) (i41 : Int) (u : S4) (u2 : S4) (u3 : S4) (i44 : Int) (x : X) (s : St) (h1 : ↑(List.length rs) = i41) (h2 : decide (i < i41) = true) (h3 : 0 ≤ i ∧ rs[Int.toNat i]? = some [di u.1, di u.snd.1, di u.snd.snd.1, di u.snd.snd.2]) (h4 : 0 ≤ i ∧ rs[Int.toNat i]? = some [di u2.1, di u2.snd.1, di u2.snd.snd.1, di u2.snd.snd.2]) (h5 : inSpec [PV.one (DV.sl 2 fo ro), PV.agg [di u.1, di u2.snd.1]] = some [PV.one (db true)]) (h6 : 0 ≤ i ∧ rs[Int.toNat i]? = some [di u3.1, di u3.snd.1, di u3.snd.snd.1, di u3.snd.snd.2]) (h7 : decide (u3.snd.2.snd ≥ 0) = true) (h8 : wr64 (i + 1) = i44) (h9 : Ev C5 noO (Task.code 22 false (loopOf Try.prog 22 1) { σ := slots 89 [(0, AV.d (DV.v (Value.slice none 0 0))), (1, AV.d (DV.sl 2 fo ro)), (6, AV.d (DV.sl 4 gs rs)), (7, vi i44)], h := { } }) (Res.code x s)) :
    Ev C5 noO (Task.code 22 false (loopOf Try.prog 22 1) { σ := slots 89 [(0, AV.d (DV.v (Value.slice none 0 0))), (1, AV.d (DV.sl 2 fo ro)), (6, AV.d (DV.sl 4 gs rs)), (7, vi i)], h := { } }) (.code (x) s) :=
  sym_ev 60 _ [(site 22 41, Dec.int i41), (site 22 42, Dec.b true), (site 22 48, Dec.row (rowS u)), (site 22 53, Dec.row (rowS u2)), (site 22 57, Dec.prim [pbool true]), (site 22 60, Dec.row (rowS u3)), (site 22 63, Dec.b true), (site 22 44, Dec.int i44), (site 22 8001, Dec.loop [0, 1, 6, 7] x s)] _ [] _ (by kernel_rfl) (AllP_cons h1 (AllP_cons h2 (AllP_cons h3 (AllP_cons h4 (AllP_cons h5 (AllP_cons h6 (AllP_cons h7 (AllP_cons h8 (AllP_cons h9 AllP_nil)))))))))
theorem rnsb_yt1nL (fo : Bool) (ro : List (List DV)) (gs : Bool) (rs : List (List DV)) (i : Int) (i41 : Int) (u : S4) (u2 : S4) (u3 : S4) (i44 : Int) (x : X) (s : St) (h1 : ↑(List.length rs) = i41) (h2 : decide (i < i41) = true) (h3 : 0 ≤ i ∧ rs[Int.toNat i]? = some [di u.1, di u.snd.1, di u.snd.snd.1, di u.snd.snd.2]) (h4 : 0 ≤ i ∧ rs[Int.toNat i]? = some [di u2.1, di u2.snd.1, di u2.snd.snd.1, di u2.snd.snd.2]) (h5 : inSpec [PV.one (DV.sl 2 fo ro), PV.agg [di u.1, di u2.snd.1]] = some [PV.one (db true)]) (h6 : 0 ≤ i ∧ rs[Int.toNat i]? = some [di u3.1, di u3.snd.1, di u3.snd.snd.1, di u3.snd.snd.2]) (h7 : decide (u3.snd.2.snd ≥ 0) = false) (h8 : wr64 (i + 1) = i44) (h9 : Ev C5 noO (Task.code 22 false (loopOf Try.prog 22 1) { σ := slots 89 [(0, AV.d (DV.v (Value.slice none 0 0))), (1, AV.d (DV.sl 2 fo ro)), (6, AV.d (DV.sl 4 gs rs)), (7, vi i44)], h := { } }) (Res.code x s)) :
    Ev C5 noO (Task.code 22 false (loopOf Try.prog 22 1) { σ := slots 89 [(0, AV.d (DV.v (Value.slice none 0 0))), (1, AV.d (DV.sl 2 fo ro)), (6, AV.d (DV.sl 4 gs rs)), (7, vi i)], h := { } }) (.code (x) s) :=
  sym_ev 60 _ [(site 22 41, Dec.int i41), (site 22 42, Dec.b true), (site 22 48, Dec.row (rowS u)), (site 22 53, Dec.row (rowS u2)), (site 22 57, Dec.prim [pbool true]), (site 22 60, Dec.row (rowS u3)), (site 22 63, Dec.b false), (site 22 44, Dec.int i44), (site 22 8001, Dec.loop [0, 1, 6, 7] x s)] _ [] _ (by kernel_rfl) (AllP_cons h1 (AllP_cons h2 (AllP_cons h3 (AllP_cons h4 (AllP_cons h5 (AllP_cons h6 (AllP_cons h7 (AllP_cons h8 (AllP_cons h9 AllP_nil)))))))))
theorem rnsb_yt2y (fo : Bool) (ro : List (List DV)) (gs : Bool) (rs : List (List DV)) (i : Int) (i41 : Int) (u : S4) (u2 : S4) (u3 : S4) (h1 : ↑(List.length rs) = i41) (h2 : decide (i < i41) = true) (h3 : 0 ≤ i ∧ rs[Int.toNat i]? = some [di u.1, di u.snd.1, di u.snd.snd.1, di u.snd.snd.2]) (h4 : 0 ≤ i ∧ rs[Int.toNat i]? = some [di u2.1, di u2.snd.1, di u2.snd.snd.1, di u2.snd.snd.2]) (h5 : inSpec [PV.one (DV.sl 2 fo ro), PV.agg [di u.1, di u2.snd.1]] = some [PV.one (db false)]) (h6 : 0 ≤ i ∧ rs[Int.toNat i]? = some [di u3.1, di u3.snd.1, di u3.snd.snd.1, di u3.snd.snd.2]) (h7 : decide (u3.snd.2.snd ≥ 0) = true) :
    Ev C5 noO (Task.code 22 false (loopOf Try.prog 22 1) { σ := slots 89 [(0, AV.d (DV.v (Value.slice none 0 0))), (1, AV.d (DV.sl 2 fo ro)), (6, AV.d (DV.sl 4 gs rs)), (7, vi i)], h := { } }) (.code (X.ret) { σ := slots 89 [(4, vi 8)], h := { } }) :=
  symM_ev (n := 60) (sc := [(site 22 41, Dec.int i41), (site 22 42, Dec.b true), (site 22 48, Dec.row (rowS u)), (site 22 53, Dec.row (rowS u2)), (site 22 57, Dec.prim [pbool false]), (site 22 60, Dec.row (rowS u3)), (site 22 63, Dec.b true)]) (keep := [4]) (sc' := []) (by kernel_rfl) (AllP_cons h1 (AllP_cons h2 (AllP_cons h3 (AllP_cons h4 (AllP_cons h5 (AllP_cons h6 (AllP_cons h7 AllP_nil)))))))
theorem rnsb_yt2nL (fo : Bool) (ro : List (List DV)) (gs : Bool) (rs : List (List DV)) (i : Int) (i41 : Int) (u : S4) (u2 : S4) (u3 : S4) (i44 : Int) (x : X) (s : St) (h1 : ↑(List.length rs) = i41) (h2 : decide (i < i41) = true) (h3 : 0 ≤ i ∧ rs[Int.toNat i]? = some [di u.1, di u.snd.1, di u.snd.snd.1, di u.snd.snd.2]) (h4 : 0 ≤ i ∧ rs[Int.toNat i]? = some [di u2.1, di u2.snd.1, di u2.snd.snd.1, di u2.snd.snd.2]) (h5 : inSpec [PV.one (DV.sl 2 fo ro), PV.agg [di u.1, di u2.snd.1]] = some [PV.one (db false)]) (h6 : 0 ≤ i ∧ rs[Int.toNat i]? = some [di u3.1, di u3.snd.1, di u3.snd.snd.1, di u3.snd.snd.2]) (h7 : decide (u3.snd.2.snd ≥ 0) = false) (h8 : wr64 (i + 1) = i44) (h9 : Ev C5 noO (Task.code 22 false (loopOf Try.prog 22 1) { σ := slots 89 [(0, AV.d (DV.v (Value.slice none 0 0))), (1, AV.d (DV.sl 2 fo ro)), (6, AV.d (DV.sl 4 gs rs)), (7, vi i44)], h := { } }) (Res.code x s)) :
    Ev C5 noO (Task.code 22 false (loopOf Try.prog 22 1) { σ := slots 89 [(0, AV.d (DV.v (Value.slice none 0 0))), (1, AV.d (DV.sl 2 fo ro)), (6, AV.d (DV.sl 4 gs rs)), (7, vi i)], h := { } }) (.code (x) s) :=
  sym_ev 60 _ [(site 22 41, Dec.int i41), (site 22 42, Dec.b true), (site 22 48, Dec.row (rowS u)), (site 22 53, Dec.row (rowS u2)), (site 22 57, Dec.prim [pbool false]), (site 22 60, Dec.row (rowS u3)), (site 22 63, Dec.b false), (site 22 44, Dec.int i44), (site 22 8001, Dec.loop [0, 1, 6, 7] x s)] _ [] _ (by kernel_rfl) (AllP_cons h1 (AllP_cons h2 (AllP_cons h3 (AllP_cons h4 (AllP_cons h5 (AllP_cons h6 (AllP_cons h7 (AllP_cons h8 (AllP_cons h9 AllP_nil)))))))))
theorem rnsb_n (fo : Bool) (ro : List (List DV)) (gs : Bool) (rs : List (List DV)) (i : Int) (i41 : Int) (h1 : ↑(List.length rs) = i41) (h2 : decide (i < i41) = false) :
    Ev C5 noO (Task.code 22 false (loopOf Try.prog 22 1) { σ := slots 89 [(0, AV.d (DV.v (Value.slice none 0 0))), (1, AV.d (DV.sl 2 fo ro)), (6, AV.d (DV.sl 4 gs rs)), (7, vi i)], h := { } }) (.code (X.exit 2) { σ := slots 89 [(0, AV.d (DV.v (Value.slice none 0 0))), (1, AV.d (DV.sl 2 fo ro))], h := { } }) :=
  symM_ev (n := 60) (sc := [(site 22 41, Dec.int i41), (site 22 42, Dec.b false)]) (keep := [0, 1]) (sc' := []) (by kernel_rfl) (AllP_cons h1 (AllP_cons h2 AllP_nil))
theorem rnse_ (fo : Bool) (ro : List (List DV)) :
    Ev C5 noO (Task.code 22 false (loopOf Try.prog 22 1) { σ := slots 89 [(0, AV.d (DV.v (Value.slice none 0 0))), (1, AV.d (DV.sl 2 fo ro)), (6, AV.d (DV.v (Value.slice none 0 0))), (7, vi 0)], h := { } }) (.code (X.exit 2) { σ := slots 89 [(0, AV.d (DV.v (Value.slice none 0 0))), (1, AV.d (DV.sl 2 fo ro))], h := { } }) :=
  symM_ev (n := 60) (sc := []) (keep := [0, 1]) (sc' := []) (by kernel_rfl) AllP_nil
theorem rns_l1l1l1 (fo : Bool) (ro : List (List DV)) (rs : List (List DV)) (h1 : Ev C5 noO (Task.code 22 false (loopOf Try.prog 22 0) { σ := slots 89 [(0, AV.d (DV.v (Value.slice none 0 0))), (1, AV.d (DV.sl 2 fo ro)), (5, vi 0)], h := { } }) (Res.code (X.exit 0) { σ := slots 89 [(0, AV.d (DV.v (Value.slice none 0 0))), (1, AV.d (DV.sl 2 fo ro))], h := { } })) (h2 : Ev C5 noO (Task.code 22 false (loopOf Try.prog 22 1) { σ := slots 89 [(0, AV.d (DV.v (Value.slice none 0 0))), (1, AV.d (DV.sl 2 fo ro)), (6, AV.d (DV.v (Value.slice none 0 0))), (7, vi 0)], h := { } }) (Res.code (X.exit 2) { σ := slots 89 [(0, AV.d (DV.v (Value.slice none 0 0))), (1, AV.d (DV.sl 2 fo ro))], h := { } })) (h3 : Ev C5 noO (Task.code 22 false (loopOf Try.prog 22 2) { σ := slots 89 [(0, AV.d (DV.v (Value.slice none 0 0))), (1, AV.d (DV.sl 2 fo ro)), (9, vi 0)], h := { } }) (Res.code (X.exit 4) { σ := slots 89 [], h := { } })) :
    Ev C5 noO (Task.call 22 [AV.d (DV.v (Value.slice none 0 0)), AV.d (DV.sl 2 fo ro)] { }) (.val (vi 0) { }) :=
  sym_ev 80 _ [(site 22 8001, Dec.loop [0, 1, 5] (X.exit 0) { σ := slots 89 [(0, AV.d (DV.v (Value.slice none 0 0))), (1, AV.d (DV.sl 2 fo ro))], h := { } }), (site 22 8001, Dec.loop [0, 1, 6, 7] (X.exit 2) { σ := slots 89 [(0, AV.d (DV.v (Value.slice none 0 0))), (1, AV.d (DV.sl 2 fo ro))], h := { } }), (site 22 8001, Dec.loop [0, 1, 9] (X.exit 4) { σ := slots 89 [], h := { } })] _ [] _ (by kernel_rfl) (AllP_cons h1 (AllP_cons h2 (AllP_cons h3 AllP_nil)))
theorem rns_l1l1l2 (fo : Bool) (ro : List (List DV)) (rs : List (List DV)) (h1 : Ev C5 noO (Task.code 22 false (loopOf Try.prog 22 0) { σ := slots 89 [(0, AV.d (DV.v (Value.slice none 0 0))), (1, AV.d (DV.sl 2 fo ro)), (5, vi 0)], h := { } }) (Res.code (X.exit 0) { σ := slots 89 [(0, AV.d (DV.v (Value.slice none 0 0))), (1, AV.d (DV.sl 2 fo ro))], h := { } })) (h2 : Ev C5 noO (Task.code 22 false (loopOf Try.prog 22 1) { σ := slots 89 [(0, AV.d (DV.v (Value.slice none 0 0))), (1, AV.d (DV.sl 2 fo ro)), (6, AV.d (DV.v (Value.slice none 0 0))), (7, vi 0)], h := { } }) (Res.code (X.exit 2) { σ := slots 89 [(0, AV.d (DV.v (Value.slice none 0 0))), (1, AV.d (DV.sl 2 fo ro))], h := { } })) (h3 : Ev C5 noO (Task.code 22 false (loopOf Try.prog 22 2) { σ := slots 89 [(0, AV.d (DV.v (Value.slice none 0 0))), (1, AV.d (DV.sl 2 fo ro)), (9, vi 0)], h := { } }) (Res.code X.ret { σ := slots 89 [(4, vi 9)], h := { } })) :
    Ev C5 noO (Task.call 22 [AV.d (DV.v (Value.slice none 0 0)), AV.d (DV.sl 2 fo ro)] { }) (.val (vi 9) { }) :=
  sym_ev 80 _ [(site 22 8001, Dec.loop [0, 1, 5] (X.exit 0) { σ := slots 89 [(0, AV.d (DV.v (Value.slice none 0 0))), (1, AV.d (DV.sl 2 fo ro))], h := { } }), (site 22 8001, Dec.loop [0, 1, 6, 7] (X.exit 2) { σ := slots 89 [(0, AV.d (DV.v (Value.slice none 0 0))), (1, AV.d (DV.sl 2 fo ro))], h := { } }), (site 22 8001, Dec.loop [0, 1, 9] X.ret { σ := slots 89 [(4, vi 9)], h := { } })] _ [] _ (by kernel_rfl) (AllP_cons h1 (AllP_cons h2 (AllP_cons h3 AllP_nil)))
theorem rns_l1l2 (fo : Bool) (ro : List (List DV)) (rs : List (List DV)) (h1 : Ev C5 noO (Task.code 22 false (loopOf Try.prog 22 0) { σ := slots 89 [(0, AV.d (DV.v (Value.slice none 0 0))), (1, AV.d (DV.sl 2 fo ro)), (5, vi 0)], h := { } }) (Res.code (X.exit 0) { σ := slots 89 [(0, AV.d (DV.v (Value.slice none 0 0))), (1, AV.d (DV.sl 2 fo ro))], h := { } })) (h2 : Ev C5 noO (Task.code 22 false (loopOf Try.prog 22 1) { σ := slots 89 [(0, AV.d (DV.v (Value.slice none 0 0))), (1, AV.d (DV.sl 2 fo ro)), (6, AV.d (DV.v (Value.slice none 0 0))), (7, vi 0)], h := { } }) (Res.code X.ret { σ := slots 89 [(4, vi 8)], h := { } })) :
    Ev C5 noO (Task.call 22 [AV.d (DV.v (Value.slice none 0 0)), AV.d (DV.sl 2 fo ro)] { }) (.val (vi 8) { }) :=
  sym_ev 80 _ [(site 22 8001, Dec.loop [0, 1, 5] (X.exit 0) { σ := slots 89 [(0, AV.d (DV.v (Value.slice none 0 0))), (1, AV.d (DV.sl 2 fo ro))], h := { } }), (site 22 8001, Dec.loop [0, 1, 6, 7] X.ret { σ := slots 89 [(4, vi 8)], h := { } })] _ [] _ (by kernel_rfl) (AllP_cons h1 (AllP_cons h2 AllP_nil))
theorem rns_l2 (fo : Bool) (ro : List (List DV)) (rs : List (List DV)) (h1 : Ev C5 noO (Task.code 22 false (loopOf Try.prog 22 0) { σ := slots 89 [(0, AV.d (DV.v (Value.slice none 0 0))), (1, AV.d (DV.sl 2 fo ro)), (5, vi 0)], h := { } }) (Res.code X.ret { σ := slots 89 [(4, vi 1)], h := { } })) :
    Ev C5 noO (Task.call 22 [AV.d (DV.v (Value.slice none 0 0)), AV.d (DV.sl 2 fo ro)] { }) (.val (vi 1) { }) :=
  sym_ev 80 _ [(site 22 8001, Dec.loop [0, 1, 5] X.ret { σ := slots 89 [(4, vi 1)], h := { } })] _ [] _ (by kernel_rfl) (AllP_cons h1 AllP_nil)
theorem rnnb_yy (gs : Bool) (rs : List (List DV)) (i : Int) (i41 : Int) (u : S4) (u2 : S4) (u3 : S4) (h1 : ↑(List.length rs) = i41) (h2 : decide (i < i41) = true) (h3 : 0 ≤ i ∧ rs[Int.toNat i]? = some [di u.1, di u.snd.1, di u.snd.snd.1, di u.snd.snd.2]) (h4 : 0 ≤ i ∧ rs[Int.toNat i]? = some [di u2.1, di u2.snd.1, di u2.snd.snd.1, di u2.snd.snd.2]) (h5 : 0 ≤ i ∧ rs[Int.toNat i]? = some [di u3.1, di u3.snd.1, di u3.snd.snd.1, di u3.snd.snd.2]) (h6 : decide (u3.snd.2.snd ≥ 0) = true) :
    Ev C5 noO (Task.code 22 false (loopOf Try.prog 22 1) { σ := slots 89 [(0, AV.d (DV.v (Value.slice none 0 0))), (1, AV.d (DV.v (Value.slice none 0 0))), (6, AV.d (DV.sl 4 gs rs)), (7, vi i)], h := { } }) (.code (X.ret) { σ := slots 89 [(4, vi 8)], h := { } }) :=
  symM_ev (n := 60) (sc := [(site 22 41, Dec.int i41), (site 22 42, Dec.b true), (site 22 48, Dec.row (rowS u)), (site 22 53, Dec.row (rowS u2)), (site 22 60, Dec.row (rowS u3)), (site 22 63, Dec.b true)]) (keep := [4]) (sc' := []) (by kernel_rfl) (AllP_cons h1 (AllP_cons h2 (AllP_cons h3 (AllP_cons h4 (AllP_cons h5 (AllP_cons h6 AllP_nil))))))
theorem rnnb_ynL (gs : Bool) (rs : List (List DV)) (i : Int) (i41 : Int) (u : S4) (u2 : S4) (u3 : S4) (i44 : Int) (x : X) (s : St) (h1 : ↑(List.length rs) = i41) (h2 : decide (i < i41) = true) (h3 : 0 ≤ i ∧ rs[Int.toNat i]? = some [di u.1, di u.snd.1, di u.snd.snd.1, di u.snd.snd.2]) (h4 : 0 ≤ i ∧ rs[Int.toNat i]? = some [di u2.1, di u2.snd.1, di u2.snd.snd.1, di u2.snd.snd.2]) (h5 : 0 ≤ i ∧ rs[Int.toNat i]? = some [di u3.1, di u3.snd.1, di u3.snd.snd.1, di u3.snd.snd.2]) (h6 : decide (u3.snd.2.snd ≥ 0) = false) (h7 : wr64 (i + 1) = i44) (h8 : Ev C5 noO (Task.code 22 false (loopOf Try.prog 22 1) { σ := slots 89 [(0, AV.d (DV.v (Value.slice none 0 0))), (1, AV.d (DV.v (Value.slice none 0 0))), (6, AV.d (DV.sl 4 gs rs)), (7, vi i44)], h := { } }) (Res.code x s)) :
    Ev C5 noO (Task.code 22 false (loopOf Try.prog 22 1) { σ := slots 89 [(0, AV.d (DV.v (Value.slice none 0 0))), (1, AV.d (DV.v (Value.slice none 0 0))), (6, AV.d (DV.sl 4 gs rs)), (7, vi i)], h := { } }) (.code (x) s) :=
  sym_ev 60 _ [(site 22 41, Dec.int i41), (site 22 42, Dec.b true), (site 22 48, Dec.row (rowS u)), (site 22 53, Dec.row (rowS u2)), (site 22 60, Dec.row (rowS u3)), (site 22 63, Dec.b false), (site 22 44, Dec.int i44), (site 22 8001, Dec.loop [0, 1, 6, 7] x s)] _ [] _ (by kernel_rfl) (AllP_cons h1 (AllP_cons h2 (AllP_cons h3 (AllP_cons h4 (AllP_cons h5 (AllP_cons h6 (AllP_cons h7 (AllP_cons h8 AllP_nil))))))))
theorem rnnb_n (gs : Bool) (rs : List (List DV)) (i : Int) (i41 : Int) (h1 : ↑(List.length rs) = i41) (h2 : decide (i < i41) = false) :
    Ev C5 noO (Task.code 22 false (loopOf Try.prog 22 1) { σ := slots 89 [(0, AV.d (DV.v (Value.slice none 0 0))), (1, AV.d (DV.v (Value.slice none 0 0))), (6, AV.d (DV.sl 4 gs rs)), (7, vi i)], h := { } }) (.code (X.exit 2) { σ := slots 89 [(0, AV.d (DV.v (Value.slice none 0 0))), (1, AV.d (DV.v (Value.slice none 0 0)))], h := { } }) :=
  symM_ev (n := 60) (sc := [(site 22 41, Dec.int i41), (site 22 42, Dec.b false)]) (keep := [0, 1]) (sc' := []) (by kernel_rfl) (AllP_cons h1 (AllP_cons h2 AllP_nil))
theorem rnne_ : Ev C5 noO (Task.code 22 false (loopOf Try.prog 22 1) { σ := slots 89 [(0, AV.d (DV.v (Value.slice none 0 0))), (1, AV.d (DV.v (Value.slice none 0 0))), (6, AV.d (DV.v (Value.slice none 0 0))), (7, vi 0)], h := { } }) (.code (X.exit 2) { σ := slots 89 [(0, AV.d (DV.v (Value.slice none 0 0))), (1, AV.d (DV.v (Value.slice none 0 0)))], h := { } }) :=
  symM_ev (n := 60) (sc := []) (keep := [0, 1]) (sc' := []) (by kernel_rfl) AllP_nil
theorem rnnA_ : Ev C5 noO (Task.code 22 false (loopOf Try.prog 22 0) { σ := slots 89 [(0, AV.d (DV.v (Value.slice none 0 0))), (1, AV.d (DV.v (Value.slice none 0 0))), (5, vi 0)], h := { } }) (.code (X.exit 0) { σ := slots 89 [(0, AV.d (DV.v (Value.slice none 0 0))), (1, AV.d (DV.v (Value.slice none 0 0)))], h := { } }) :=
  symM_ev (n := 60) (sc := []) (keep := [0, 1]) (sc' := []) (by kernel_rfl) AllP_nil
theorem rnnC_ : Ev C5 noO (Task.code 22 false (loopOf Try.prog 22 2) { σ := slots 89 [(0, AV.d (DV.v (Value.slice none 0 0))), (1, AV.d (DV.v (Value.slice none 0 0))), (9, vi 0)], h := { } }) (.code (X.exit 4) { σ := slots 89 [], h := { } }) :=
  symM_ev (n := 60) (sc := []) (keep := []) (sc' := []) (by kernel_rfl) AllP_nil
theorem rnn_l1l1l1 (rs : List (List DV)) (h1 : Ev C5 noO (Task.code 22 false (loopOf Try.prog 22 0) { σ := slots 89 [(0, AV.d (DV.v (Value.slice none 0 0))), (1, AV.d (DV.v (Value.slice none 0 0))), (5, vi 0)], h := { } }) (Res.code (X.exit 0) { σ := slots 89 [(0, AV.d (DV.v (Value.slice none 0 0))), (1, AV.d (DV.v (Value.slice none 0 0)))], h := { } })) (h2 : Ev C5 noO (Task.code 22 false (loopOf Try.prog 22 1) { σ := slots 89 [(0, AV.d (DV.v (Value.slice none 0 0))), (1, AV.d (DV.v (Value.slice none 0 0))), (6, AV.d (DV.v (Value.slice none 0 0))), (7, vi 0)], h := { } }) (Res.code (X.exit 2) { σ := slots 89 [(0, AV.d (DV.v (Value.slice none 0 0))), (1, AV.d (DV.v (Value.slice none 0 0)))], h := { } })) (h3 : Ev C5 noO (Task.code 22 false (loopOf Try.prog 22 2) { σ := slots 89 [(0, AV.d (DV.v (Value.slice none 0 0))), (1, AV.d (DV.v (Value.slice none 0 0))), (9, vi 0)], h := { } }) (Res.code (X.exit 4) { σ := slots 89 [], h := { } })) :
    Ev C5 noO (Task.call 22 [AV.d (DV.v (Value.slice none 0 0)), AV.d (DV.v (Value.slice none 0 0))] { }) (.val (vi 0) { }) :=
  sym_ev 80 _ [(site 22 8001, Dec.loop [0, 1, 5] (X.exit 0) { σ := slots 89 [(0, AV.d (DV.v (Value.slice none 0 0))), (1, AV.d (DV.v (Value.slice none 0 0)))], h := { } }), (site 22 8001, Dec.loop [0, 1, 6, 7] (X.exit 2) { σ := slots 89 [(0, AV.d (DV.v (Value.slice none 0 0))), (1, AV.d (DV.v (Value.slice none 0 0)))], h := { } }), (site 22 8001, Dec.loop [0, 1, 9] (X.exit 4) { σ := slots 89 [], h := { } })] _ [] _ (by kernel_rfl) (AllP_cons h1 (AllP_cons h2 (AllP_cons h3 AllP_nil)))
theorem rnn_l1l1l2 (rs : List (List DV)) (h1 : Ev C5 noO (Task.code 22 false (loopOf Try.prog 22 0) { σ := slots 89 [(0, AV.d (DV.v (Value.slice none 0 0))), (1, AV.d (DV.v (Value.slice none 0 0))), (5, vi 0)], h := { } }) (Res.code (X.exit 0) { σ := slots 89 [(0, AV.d (DV.v (Value.slice none 0 0))), (1, AV.d (DV.v (Value.slice none 0 0)))], h := { } })) (h2 : Ev C5 noO (Task.code 22 false (loopOf Try.prog 22 1) { σ := slots 89 [(0, AV.d (DV.v (Value.slice none 0 0))), (1, AV.d (DV.v (Value.slice none 0 0))), (6, AV.d (DV.v (Value.slice none 0 0))), (7, vi 0)], h := { } }) (Res.code (X.exit 2) { σ := slots 89 [(0, AV.d (DV.v (Value.slice none 0 0))), (1, AV.d (DV.v (Value.slice none 0 0)))], h := { } })) (h3 : Ev C5 noO (Task.code 22 false (loopOf Try.prog 22 2) { σ := slots 89 [(0, AV.d (DV.v (Value.slice none 0 0))), (1, AV.d (DV.v (Value.slice none 0 0))), (9, vi 0)], h := { } }) (Res.code X.ret { σ := slots 89 [(4, vi 9)], h := { } })) :
    Ev C5 noO (Task.call 22 [AV.d (DV.v (Value.slice none 0 0)), AV.d (DV.v (Value.slice none 0 0))] { }) (.val (vi 9) { }) :=
  sym_ev 80 _ [(site 22 8001, Dec.loop [0, 1, 5] (X.exit 0) { σ := slots 89 [(0, AV.d (DV.v (Value.slice none 0 0))), (1, AV.d (DV.v (Value.slice none 0 0)))], h := { } }), (site 22 8001, Dec.loop [0, 1, 6, 7] (X.exit 2) { σ := slots 89 [(0, AV.d (DV.v (Value.slice none 0 0))), (1, AV.d (DV.v (Value.slice none 0 0)))], h := { } }), (site 22 8001, Dec.loop [0, 1, 9] X.ret { σ := slots 89 [(4, vi 9)], h := { } })] _ [] _ (by kernel_rfl) (AllP_cons h1 (AllP_cons h2 (AllP_cons h3 AllP_nil)))
theorem rnn_l1l2 (rs : List (List DV)) (h1 : Ev C5 noO (Task.code 22 false (loopOf Try.prog 22 0) { σ := slots 89 [(0, AV.d (DV.v (Value.slice none 0 0))), (1, AV.d (DV.v (Value.slice none 0 0))), (5, vi 0)], h := { } }) (Res.code (X.exit 0) { σ := slots 89 [(0, AV.d (DV.v (Value.slice none 0 0))), (1, AV.d (DV.v (Value.slice none 0 0)))], h := { } })) (h2 : Ev C5 noO (Task.code 22 false (loopOf Try.prog 22 1) { σ := slots 89 [(0, AV.d (DV.v (Value.slice none 0 0))), (1, AV.d (DV.v (Value.slice none 0 0))), (6, AV.d (DV.v (Value.slice none 0 0))), (7, vi 0)], h := { } }) (Res.code X.ret { σ := slots 89 [(4, vi 8)], h := { } })) :
    Ev C5 noO (Task.call 22 [AV.d (DV.v (Value.slice none 0 0)), AV.d (DV.v (Value.slice none 0 0))] { }) (.val (vi 8) { }) :=
  sym_ev 80 _ [(site 22 8001, Dec.loop [0, 1, 5] (X.exit 0) { σ := slots 89 [(0, AV.d (DV.v (Value.slice none 0 0))), (1, AV.d (DV.v (Value.slice none 0 0)))], h := { } }), (site 22 8001, Dec.loop [0, 1, 6, 7] X.ret { σ := slots 89 [(4, vi 8)], h := { } })] _ [] _ (by kernel_rfl) (AllP_cons h1 (AllP_cons h2 AllP_nil))
theorem rnn_l2 (rs : List (List DV)) (h1 : Ev C5 noO (Task.code 22 false (loopOf Try.prog 22 0) { σ := slots 89 [(0, AV.d (DV.v (Value.slice none 0 0))), (1, AV.d (DV.v (Value.slice none 0 0))), (5, vi 0)], h := { } }) (Res.code X.ret { σ := slots 89 [(4, vi 1)], h := { } })) :
    Ev C5 noO (Task.call 22 [AV.d (DV.v (Value.slice none 0 0)), AV.d (DV.v (Value.slice none 0 0))] { }) (.val (vi 1) { }) :=
  sym_ev 80 _ [(site 22 8001, Dec.loop [0, 1, 5] X.ret { σ := slots 89 [(4, vi 1)], h := { } })] _ [] _ (by kernel_rfl) (AllP_cons h1 AllP_nil)

end Go.Ev

namespace Go.Ev
open Go Go.RowKit Go.Proofs

theorem in_at {f : Bool} {l : List (Int × Int)} (a b : Int) (hb : l.length < 2 ^ 40) : inSpec [.one (.sl 2 f (rowsP l)), .agg [di a, di b]] = some [.one (db (l.contains (a, b)))] := by
  have : pairOf (.agg [di a, di b]) = some (a, b) := rfl
  simp only [inSpec, callsOf_sl, this, hb, if_true]; rfl
theorem refBefore_at {f : Bool} {l : List Evt} (a b : Int × Int) (hb : l.length < 2 ^ 40) : refBeforeSpec [.one (.sl 7 f (evRows l)), .agg [di a.1, di a.2], .agg [di b.1, di b.2]] = some [.one (db (refBeforeB l a b))] := by
  have h1 : pairOf (.agg [di a.1, di a.2]) = some a := rfl
  have h2 : pairOf (.agg [di b.1, di b.2]) = some b := rfl
  simp only [refBeforeSpec, evtsOf_sl, h1, h2, hb, if_true]; rfl

def s22 (x y : DV) (more : List (Nat × AV)) : St := { σ := slots 89 ((0, .d x) :: (1, .d y) :: more), h := {} }
def ret22 (n : Int) : X × St := (.ret, { σ := slots 89 [(4, vi n)], h := {} })
def oA (x y : DV) : Bool → X × St
  | true => (.exit 0, s22 x y [])
  | false => ret22 1
def oB (x y : DV) : Bool → X × St
  | true => (.exit 2, s22 x y [])
  | false => ret22 8
def oC : Bool → X × St
  | true => (.exit 4, { σ := slots 89 [], h := {} })
  | false => ret22 9
def oD (x y : DV) (i : Int) : Bool → X × St
  | true => (.exit 6, s22 x y [(9, vi i)])
  | false => ret22 9

section
variable (f : Bool) (l : List Evt) (hl : l.length < 2 ^ 40) (fo : Bool) (all : List (Int × Int)) (ho : all.length < 2 ^ 40)
include hl ho
theorem rfa_loop : ∀ (rest pre : List (Int × Int)), pre ++ rest = all →
    Ev C5 noO (.code 22 false (loopOf Try.prog 22 0) (s22 (.sl 7 f (evRows l)) (.sl 2 fo (rowsP all)) [(5, vi (pre.length : Nat))])) (.code (oA (.sl 7 f (evRows l)) (.sl 2 fo (rowsP all)) (rf1 l pre rest)).1 (oA (.sl 7 f (evRows l)) (.sl 2 fo (rowsP all)) (rf1 l pre rest)).2)
  | [], pre, h => rsa_n _ _ _ _ _ (all.length : Nat) (by simp [rowsP]) (dge (by subst h; simp))
  | c :: rest, pre, h => by
    have hlt := pre_lt h
    have hrow := row_at (g := rowP) h
    have ih := rfa_loop rest (pre ++ [c]) (pre_snoc h)
    simp only [len_snoc] at ih
    have hlen : (((rowsP all).length : Nat) : Int) = (all.length : Nat) := by simp [rowsP]
    have hp := place_at (f := f) c false hl
    by_cases h1 : placeI c false l < 0
    · have : rf1 l pre (c :: rest) = false := by unfold rf1; rw [if_pos h1]
      rw [this]
      exact rsa_yy f _ fo _ _ _ c _ hlen (dlt hlt) hrow hp (decide_eq_true h1)
    · obtain ⟨fc, hcut⟩ : ∃ fc, cutGoal 2 (.d (.sl 2 fo (rowsP all))) none (some ((pre.length : Nat) : Int)) none 0 pre.length (rowsP all).length (.d (.sl 2 fc (rowsP pre))) :=
        ⟨_, rfl, rfl, rfl, rfl, Nat.zero_le _, by simp [rowsP]; omega, Nat.le_refl _, by
          have : ((rowsP all).drop 0).take (pre.length - 0) = rowsP pre := by subst h; simp [rowsP]
          rw [this]⟩
      have hi := in_at (f := fc) (l := pre) c.1 c.2 (by omega)
      have hcc : ((c.1, c.2) : Int × Int) = c := rfl
      rw [hcc] at hi
      cases h2 : pre.contains c with
      | true =>
        have : rf1 l pre (c :: rest) = false := by unfold rf1; rw [if_neg h1, h2]; rfl
        rw [this]
        rw [h2] at hi
        exact rsa_ynt1 f _ fo _ _ _ c _ _ _ fc _ c hlen (dlt hlt) hrow hp (decide_eq_false h1) hcut hrow hi
      | false =>
        have : rf1 l pre (c :: rest) = rf1 l (pre ++ [c]) rest := by rw [rf1, if_neg h1, h2]; rfl
        rw [this]
        rw [h2] at hi
        exact rsa_ynt2L f _ fo _ _ _ c _ _ _ fc _ c _ _ _ hlen (dlt hlt) hrow hp (decide_eq_false h1) hcut hrow hi (wrap_succ (by omega)) ih
theorem rfd_loop (c : Int × Int) (rest2 pre : List (Int × Int)) (h2 : pre ++ c :: rest2 = all) : ∀ (rest pre1 : List (Int × Int)), pre1 ++ rest = pre →
    Ev C5 noO (.code 22 false (loopOf Try.prog 22 3) (s22 (.sl 7 f (evRows l)) (.sl 2 fo (rowsP all)) [(9, vi (pre.length : Nat)), (10, vi (pre1.length : Nat))])) (.code (oD (.sl 7 f (evRows l)) (.sl 2 fo (rowsP all)) (pre.length : Nat) (rf3i l c rest)).1 (oD (.sl 7 f (evRows l)) (.sl 2 fo (rowsP all)) (pre.length : Nat) (rf3i l c rest)).2)
  | [], pre1, h => rsd_n _ _ _ _ _ _ (dge (by subst h; simp))
  | d :: rest, pre1, h => by
    have hlt := pre_lt h
    have hlt2 := pre_lt h2
    have hrow := row_at (g := rowP) h2
    have hrow2 := row_at (g := rowP) (show pre1 ++ d :: (rest ++ c :: rest2) = all by rw [← h2, ← h]; simp)
    have ih := rfd_loop c rest2 pre h2 rest (pre1 ++ [d]) (pre_snoc h)
    simp only [len_snoc] at ih
    have hp := refBefore_at (f := f) c d hl
    unfold rf3i
    cases hb : refBeforeB l c d with
    | true =>
      rw [hb] at hp
      exact rsd_yt1 f _ fo _ _ _ c d (dlt hlt) hrow hrow2 hp
    | false =>
      rw [hb] at hp
      exact rsd_yt2L f _ fo _ _ _ c d _ _ _ (dlt hlt) hrow hrow2 hp (wrap_succ (by omega)) ih
theorem rfc_loop : ∀ (rest pre : List (Int × Int)), pre ++ rest = all →
    Ev C5 noO (.code 22 false (loopOf Try.prog 22 2) (s22 (.sl 7 f (evRows l)) (.sl 2 fo (rowsP all)) [(9, vi (pre.length : Nat))])) (.code (oC (rf3 l pre rest)).1 (oC (rf3 l pre rest)).2)
  | [], pre, h => rsc_n _ _ _ _ _ (all.length : Nat) (by simp [rowsP]) (dge (by subst h; simp))
  | c :: rest, pre, h => by
    have hlt := pre_lt h
    have ih := rfc_loop rest (pre ++ [c]) (pre_snoc h)
    simp only [len_snoc] at ih
    have hlen : (((rowsP all).length : Nat) : Int) = (all.length : Nat) := by simp [rowsP]
    have hd := rfd_loop f l hl fo all ho c rest pre h pre [] rfl
    unfold rf3
    cases hb : rf3i l c pre with
    | true =>
      rw [hb] at hd
      exact rsc_yl1L f _ fo _ _ _ _ _ _ hlen (dlt hlt) hd (wrap_succ (by omega)) ih
    | false =>
      rw [hb] at hd
      exact rsc_yl2 f _ fo _ _ _ hlen (dlt hlt) hd
omit hl in
theorem rfb_loop (gs : Bool) (sp : List S4) (hs : sp.length < 2 ^ 40) : ∀ (rest pre : List S4), pre ++ rest = sp →
    Ev C5 noO (.code 22 false (loopOf Try.prog 22 1) (s22 (.sl 7 f (evRows l)) (.sl 2 fo (rowsP all)) [(6, .d (.sl 4 gs (rowsS sp))), (7, vi (pre.length : Nat))])) (.code (oB (.sl 7 f (evRows l)) (.sl 2 fo (rowsP all)) (rf2 all rest)).1 (oB (.sl 7 f (evRows l)) (.sl 2 fo (rowsP all)) (rf2 all rest)).2)
  | [], pre, h => rssb_n _ _ _ _ _ _ _ (sp.length : Nat) (by simp [rowsS]) (dge (by subst h; simp))
  | s :: rest, pre, h => by
    have hlt := pre_lt h
    have hrow := row_at (g := rowS) h
    have ih := rfb_loop gs sp hs rest (pre ++ [s]) (pre_snoc h)
    simp only [len_snoc] at ih
    have hlen : (((rowsS sp).length : Nat) : Int) = (sp.length : Nat) := by simp [rowsS]
    have hi := in_at (f := fo) (l := all) s.1 s.2.1 ho
    unfold rf2
    cases hb : all.contains (s.1, s.2.1) with
    | true =>
      rw [hb] at hi
      rw [if_neg (by simp)]
      by_cases h1 : s.2.2.2 ≥ 0
      · exact rssb_yt1yL f _ fo _ gs _ _ _ s s s _ _ _ hlen (dlt hlt) hrow hrow hi hrow (decide_eq_true h1) (wrap_succ (by omega)) ih
      · exact rssb_yt1nL f _ fo _ gs _ _ _ s s s _ _ _ hlen (dlt hlt) hrow hrow hi hrow (decide_eq_false h1) (wrap_succ (by omega)) ih
    | false =>
      rw [hb] at hi
      by_cases h1 : s.2.2.2 ≥ 0
      · rw [if_pos ⟨h1, rfl⟩]
        exact rssb_yt2y f _ fo _ gs _ _ _ s s s hlen (dlt hlt) hrow hrow hi hrow (decide_eq_true h1)
      · rw [if_neg (fun h => h1 h.1)]
        exact rssb_yt2nL f _ fo _ gs _ _ _ s s s _ _ _ hlen (dlt hlt) hrow hrow hi hrow (decide_eq_false h1) (wrap_succ (by omega)) ih
omit hl ho in
theorem rfbn_loop (gs : Bool) (sp : List S4) (hs : sp.length < 2 ^ 40) : ∀ (rest pre : List S4), pre ++ rest = sp →
    Ev C5 noO (.code 22 false (loopOf Try.prog 22 1) (s22 (.sl 7 f (evRows l)) (.v (.slice none 0 0)) [(6, .d (.sl 4 gs (rowsS sp))), (7, vi (pre.length : Nat))])) (.code (oB (.sl 7 f (evRows l)) (.v (.slice none 0 0)) (rf2 [] rest)).1 (oB (.sl 7 f (evRows l)) (.v (.slice none 0 0)) (rf2 [] rest)).2)
  | [], pre, h => rsnb_n _ _ _ _ _ (sp.length : Nat) (by simp [rowsS]) (dge (by subst h; simp))
  | s :: rest, pre, h => by
    have hlt := pre_lt h
    have hrow := row_at (g := rowS) h
    have ih := rfbn_loop gs sp hs rest (pre ++ [s]) (pre_snoc h)
    simp only [len_snoc] at ih
    have hlen : (((rowsS sp).length : Nat) : Int) = (sp.length : Nat) := by simp [rowsS]
    unfold rf2
    by_cases h1 : s.2.2.2 ≥ 0
    · rw [if_pos ⟨h1, rfl⟩]
      exact rsnb_yy f _ gs _ _ _ s s s hlen (dlt hlt) hrow hrow hrow (decide_eq_true h1)
    · rw [if_neg (fun h => h1 h.1)]
      exact rsnb_ynL f _ gs _ _ _ s s s _ _ _ hlen (dlt hlt) hrow hrow hrow (decide_eq_false h1) (wrap_succ (by omega)) ih
end

theorem refSpansL_len (all : List Evt) : ∀ (l : List Evt) (i : Nat), (refSpansL all i l).length ≤ l.length
  | [], i => Nat.le_refl _
  | e :: l, i => by
    unfold refSpansL
    have := refSpansL_len all l (i + 1)
    split <;> simp <;> omega
theorem refSpansI_len (l : List Evt) : (refSpansI l).length ≤ l.length := by
  unfold refSpansI
  split
  · exact refSpansL_len _ l 0
  · simp

def refFitsSpec : Spec
  | [p, q] => match evtsOf p, callsOf q with
    | some l, some order => if l.length < 2 ^ 40 ∧ order.length < 2 ^ 40 then some [pint (refFitsB l order)] else none
    | _, _ => none
  | _ => none
theorem refFits_sat : Sat C5 22 refFitsSpec := by
  refine sat_of_ev (O := noO) hP5 (fun _ _ h => h.elim) hm0 fun ps rs hs => ?_
  unfold refFitsSpec at hs
  split at hs
  · split at hs
    · rename_i p q l order hl ho
      split at hs
      · rename_i hb
        obtain ⟨hb, hb2⟩ := hb
        simp only [Option.some.injEq] at hs
        subst hs
        rcases evtsOf_cases hl with ⟨rfl, rfl⟩ | ⟨f, rfl⟩
        · rcases callsOf_cases ho with ⟨rfl, rfl⟩ | ⟨fo, rfl⟩
          · exact ⟨_, _, _, rnn_l1l1l1 [] rnnA_ rnne_ rnnC_, rfl⟩
          · cases order with
            | nil => exact ⟨_, _, _, rns_l1l1l1 fo _ [] (rna_n fo _ 0 0 rfl rfl) (rnse_ fo _) (rnc_n fo _ 0 0 rfl rfl), rfl⟩
            | cons c r => exact ⟨_, _, _, rns_l2 fo _ [] (rna_y fo _ 0 (c :: r).length c (by simp [rowsP]) (by simp) ⟨Int.le_refl _, rfl⟩), rfl⟩
        · have hsl : (refSpansI l).length < 2 ^ 40 := by have := refSpansI_len l; omega
          have hsp : refSpansSpec [.one (.sl 7 f (evRows l))] = some [madePV 4 (rowsS (refSpansI l))] := by simp only [refSpansSpec, evtsOf_sl, hb, if_true]
          unfold refFitsB
          rcases callsOf_cases ho with ⟨rfl, rfl⟩ | ⟨fo, rfl⟩
          · cases hr : refRightB l with
            | false => exact ⟨_, _, _, rsn_t2 f (evRows l) [] (refRight_at hb hr), rfl⟩
            | true =>
              have e1 : rf1 l [] [] = true := rfl
              have e3 : rf3 l [] [] = true := rfl
              rw [e1, e3]
              by_cases hn : refSpansI l = []
              · rw [hn] at hsp ⊢
                exact ⟨_, _, _, rsn_t1l1t1l1l1 f _ [] (refRight_at hb hr) (rsnA_ f _) hsp (rsne_ f _) (rsnC_ f _), rfl⟩
              · rw [made_ne hn] at hsp
                have hB := rfbn_loop f l false (refSpansI l) hsl (refSpansI l) [] rfl
                cases h2 : rf2 [] (refSpansI l) with
                | true => rw [h2] at hB; exact ⟨_, _, _, rsn_t1l1t2l1l1 f _ _ (refRight_at hb hr) (rsnA_ f _) hsp hB (rsnC_ f _), rfl⟩
                | false => rw [h2] at hB; exact ⟨_, _, _, rsn_t1l1t2l2 f _ _ (refRight_at hb hr) (rsnA_ f _) hsp hB, rfl⟩
          · cases hr : refRightB l with
            | false => exact ⟨_, _, _, rss_t2 f (evRows l) fo _ [] (refRight_at hb hr), rfl⟩
            | true =>
              have hA := rfa_loop f l hb fo order hb2 order [] rfl
              have hC := rfc_loop f l hb fo order hb2 order [] rfl
              cases h1 : rf1 l [] order with
              | false => rw [h1] at hA; exact ⟨_, _, _, rss_t1l2 f _ fo _ [] (refRight_at hb hr) hA, rfl⟩
              | true =>
                rw [h1] at hA
                by_cases hn : refSpansI l = []
                · rw [hn] at hsp ⊢
                  have e2 : rf2 order [] = true := rfl
                  rw [e2]
                  cases h3 : rf3 l [] order with
                  | true => rw [h3] at hC; exact ⟨_, _, _, rss_t1l1t1l1l1 f _ fo _ [] (refRight_at hb hr) hA hsp (rsse_ f _ fo _) hC, rfl⟩
                  | false => rw [h3] at hC; exact ⟨_, _, _, rss_t1l1t1l1l2 f _ fo _ [] (refRight_at hb hr) hA hsp (rsse_ f _ fo _) hC, rfl⟩
                · rw [made_ne hn] at hsp
                  have hB := rfb_loop f l fo order hb2 false (refSpansI l) hsl (refSpansI l) [] rfl
                  cases h2 : rf2 order (refSpansI l) with
                  | false => rw [h2] at hB; exact ⟨_, _, _, rss_t1l1t2l2 f _ fo _ _ (refRight_at hb hr) hA hsp hB, rfl⟩
                  | true =>
                    rw [h2] at hB
                    cases h3 : rf3 l [] order with
                    | true => rw [h3] at hC; exact ⟨_, _, _, rss_t1l1t2l1l1 f _ fo _ _ (refRight_at hb hr) hA hsp hB hC, rfl⟩
                    | false => rw [h3] at hC; exact ⟨_, _, _, rss_t1l1t2l1l2 f _ fo _ _ (refRight_at hb hr) hA hsp hB hC, rfl⟩
      · cases hs
    · cases hs
  · cases hs

def L6 : List (FuncId × Spec) := (22, refFitsSpec) :: L5
noncomputable def C6 : Ctx := { P := Try.prog, prim := primL L6 }

end Go.Ev

namespace Go.Ev
open Go Go.RowKit Go.Proofs

theorem primL_mem : ∀ (l : List (FuncId × Spec)), (l.map (·.1)).Nodup → ∀ x ∈ l, primL l x.1 = some x.2 := by
  intro l
  induction l with
  | nil => intro _ x hx; cases hx
  | cons y l ih =>
    intro hn x hx
    rw [List.map_cons, List.nodup_cons] at hn
    simp only [primL]
    rcases List.mem_cons.1 hx with rfl | hx
    · rw [if_pos rfl]
    · have hne : x.1 ≠ y.1 := fun e => hn.1 (by rw [← e]; exact List.mem_map.2 ⟨x, hx, rfl⟩)
      rw [if_neg hne]
      exact ih hn.2 x hx
theorem primOK_cons {L : List (FuncId × Spec)} {C C' : Ctx} {g : FuncId} {s : Spec} (hC : PrimOK C) (hp : C.prim = primL L) (hn : (L.map (·.1)).Nodup) (hs : Sat C g s) (hP : C'.P = C.P) (hg : C'.glob = C.glob)
    (hp' : C'.prim = primL ((g, s) :: L)) (hb : (g :: L.map (·.1)).all (hasBody C') = true) : PrimOK C' := by
  refine .ofList (l := (g, s) :: L) hp' fun x hx => ?_
  rw [List.all_eq_true] at hb
  rcases List.mem_cons.1 hx with rfl | hx
  · exact ⟨hs.ctx hP hg, hb _ (by simp)⟩
  · refine ⟨(hC x.1 x.2 (by rw [hp]; exact primL_mem L hn x hx)).1.ctx hP hg, hb _ ?_⟩
    exact List.mem_cons_of_mem _ (List.mem_map.2 ⟨x, hx, rfl⟩)
theorem hP6 : PrimOK C6 := primOK_cons hP5 rfl (by decide) refFits_sat rfl rfl rfl (by kernel_rfl)

end Go.Ev

namespace Go.Ev
open Go Go.RowKit Go.Proofs

theorem mda_yyt1yL (full : Bool) (rows : List (List DV)) (n : Int) (i : Int) (a : Int) (b : Int) (c : Int) (i12 : Int) (u : Int) (i25 : Int) (i31 : Int) (i35 : Int) (u2 : Int) (i44 : Int) (i45 : Int) (i52 : Int) (i20 : Int) (x : X) (s : St) (h1 : ↑(List.length rows) = i12) (h2 : decide (i < i12) = true) (h3 : decide (i < n) = true) (h4 : 0 ≤ i ∧ rows[Int.toNat i]? = some [DV.v (Value.int IntKind.u8 u)]) (h5 : wr64 u = i25) (h6 : Int.tmod i25 3 = 0) (h7 : wr64 (Int.tdiv a 2) = i31) (h8 : Int.tmod a 2 = i35) (h9 : (i35 == 1) = true) (h10 : 0 ≤ i ∧ rows[Int.toNat i]? = some [DV.v (Value.int IntKind.u8 u2)]) (h11 : wr64 u2 = i44) (h12 : wr64 (Int.tdiv i44 3) = i45) (h13 : wr64 (a + 1) = i52) (h14 : wr64 (i + 1) = i20) (h15 : Ev C0 noO (Task.code 23 false (loopOf Try.prog 23 0) { σ := slots 59 [(0, AV.d (DV.sl 1 full rows)), (1, vi n), (5, AV.st 7 [[di 0, di i31, db true, di 0, di i45, di 0, di 0]] 188473 1), (6, AV.ptr 188422 0 0), (7, vi i20)], h := { objs := [(188422, 1, [AO.cells [vi i52, vi b, vi c] false])], toks := [(188473, 1)] } }) (Res.code x s)) :
    Ev C0 noO (Task.code 23 false (loopOf Try.prog 23 0) { σ := slots 59 [(0, AV.d (DV.sl 1 full rows)), (1, vi n), (5, AV.d (DV.v (Value.slice none 0 0))), (6, AV.ptr (site 23 6) 0 0), (7, vi i)], h := H.push { } (site 23 6) (AO.cells [vi a, vi b, vi c] false) }) (.code (x) s) :=
  sym_ev 60 _ [(site 23 12, Dec.int i12), (site 23 13, Dec.b true), (site 23 17, Dec.b true), (site 23 23, Dec.row [DV.v (Value.int IntKind.u8 u)]), (site 23 25, Dec.int i25), (site 23 26, Dec.int 0), (site 23 31, Dec.int i31), (site 23 35, Dec.int i35), (site 23 36, Dec.b true), (site 23 42, Dec.row [DV.v (Value.int IntKind.u8 u2)]), (site 23 44, Dec.int i44), (site 23 45, Dec.int i45), (site 23 52, Dec.int i52), (site 23 20, Dec.int i20), (site 23 8002, Dec.drop [188425] [0, 1, 5, 6, 7]), (site 23 8001, Dec.loop [0, 1, 5, 6, 7] x s)] _ [] _ (by kernel_rfl) (AllP_cons h1 (AllP_cons h2 (AllP_cons h3 (AllP_cons h4 (AllP_cons h5 (AllP_cons h6 (AllP_cons h7 (AllP_cons h8 (AllP_cons h9 (AllP_cons h10 (AllP_cons h11 (AllP_cons h12 (AllP_cons h13 (AllP_cons h14 (AllP_cons (rfl : true = true) (AllP_cons (rfl : true = true) (AllP_cons (rfl : true = true) (AllP_cons h15 AllP_nil))))))))))))))))))
theorem mda_yyt1nL (full : Bool) (rows : List (List DV)) (n : Int) (i : Int) (a : Int) (b : Int) (c : Int) (i12 : Int) (u : Int) (i25 : Int) (i31 : Int) (i35 : Int) (i52 : Int) (i20 : Int) (x : X) (s : St) (h1 : ↑(List.length rows) = i12) (h2 : decide (i < i12) = true) (h3 : decide (i < n) = true) (h4 : 0 ≤ i ∧ rows[Int.toNat i]? = some [DV.v (Value.int IntKind.u8 u)]) (h5 : wr64 u = i25) (h6 : Int.tmod i25 3 = 0) (h7 : wr64 (Int.tdiv a 2) = i31) (h8 : Int.tmod a 2 = i35) (h9 : (i35 == 1) = false) (h10 : wr64 (a + 1) = i52) (h11 : wr64 (i + 1) = i20) (h12 : Ev C0 noO (Task.code 23 false (loopOf Try.prog 23 0) { σ := slots 59 [(0, AV.d (DV.sl 1 full rows)), (1, vi n), (5, AV.st 7 [[di 0, di i31, db false, di 0, di 0, di 0, di 0]] 188473 1), (6, AV.ptr 188422 0 0), (7, vi i20)], h := { objs := [(188422, 1, [AO.cells [vi i52, vi b, vi c] false])], toks := [(188473, 1)] } }) (Res.code x s)) :
    Ev C0 noO (Task.code 23 false (loopOf Try.prog 23 0) { σ := slots 59 [(0, AV.d (DV.sl 1 full rows)), (1, vi n), (5, AV.d (DV.v (Value.slice none 0 0))), (6, AV.ptr (site 23 6) 0 0), (7, vi i)], h := H.push { } (site 23 6) (AO.cells [vi a, vi b, vi c] false) }) (.code (x) s) :=
  sym_ev 60 _ [(site 23 12, Dec.int i12), (site 23 13, Dec.b true), (site 23 17, Dec.b true), (site 23 23, Dec.row [DV.v (Value.int IntKind.u8 u)]), (site 23 25, Dec.int i25), (site 23 26, Dec.int 0), (site 23 31, Dec.int i31), (site 23 35, Dec.int i35), (site 23 36, Dec.b false), (site 23 52, Dec.int i52), (site 23 20, Dec.int i20), (site 23 8002, Dec.drop [188425] [0, 1, 5, 6, 7]), (site 23 8001, Dec.loop [0, 1, 5, 6, 7] x s)] _ [] _ (by kernel_rfl) (AllP_cons h1 (AllP_cons h2 (AllP_cons h3 (AllP_cons h4 (AllP_cons h5 (AllP_cons h6 (AllP_cons h7 (AllP_cons h8 (AllP_cons h9 (AllP_cons h10 (AllP_cons h11 (AllP_cons (rfl : true = true) (AllP_cons (rfl : true = true) (AllP_cons (rfl : true = true) (AllP_cons h12 AllP_nil)))))))))))))))
theorem mda_yyt2yL (full : Bool) (rows : List (List DV)) (n : Int) (i : Int) (a : Int) (b : Int) (c : Int) (i12 : Int) (u : Int) (i25 : Int) (i31 : Int) (i35 : Int) (u2 : Int) (i44 : Int) (i45 : Int) (i52 : Int) (i20 : Int) (x : X) (s : St) (h1 : ↑(List.length rows) = i12) (h2 : decide (i < i12) = true) (h3 : decide (i < n) = true) (h4 : 0 ≤ i ∧ rows[Int.toNat i]? = some [DV.v (Value.int IntKind.u8 u)]) (h5 : wr64 u = i25) (h6 : Int.tmod i25 3 = 1) (h7 : wr64 (Int.tdiv b 2) = i31) (h8 : Int.tmod b 2 = i35) (h9 : (i35 == 1) = true) (h10 : 0 ≤ i ∧ rows[Int.toNat i]? = some [DV.v (Value.int IntKind.u8 u2)]) (h11 : wr64 u2 = i44) (h12 : wr64 (Int.tdiv i44 3) = i45) (h13 : wr64 (b + 1) = i52) (h14 : wr64 (i + 1) = i20) (h15 : Ev C0 noO (Task.code 23 false (loopOf Try.prog 23 0) { σ := slots 59 [(0, AV.d (DV.sl 1 full rows)), (1, vi n), (5, AV.st 7 [[di 1, di i31, db true, di 0, di i45, di 0, di 0]] 188473 1), (6, AV.ptr 188422 0 0), (7, vi i20)], h := { objs := [(188422, 1, [AO.cells [vi a, vi i52, vi c] false])], toks := [(188473, 1)] } }) (Res.code x s)) :
    Ev C0 noO (Task.code 23 false (loopOf Try.prog 23 0) { σ := slots 59 [(0, AV.d (DV.sl 1 full rows)), (1, vi n), (5, AV.d (DV.v (Value.slice none 0 0))), (6, AV.ptr (site 23 6) 0 0), (7, vi i)], h := H.push { } (site 23 6) (AO.cells [vi a, vi b, vi c] false) }) (.code (x) s) :=
  sym_ev 60 _ [(site 23 12, Dec.int i12), (site 23 13, Dec.b true), (site 23 17, Dec.b true), (site 23 23, Dec.row [DV.v (Value.int IntKind.u8 u)]), (site 23 25, Dec.int i25), (site 23 26, Dec.int 1), (site 23 31, Dec.int i31), (site 23 35, Dec.int i35), (site 23 36, Dec.b true), (site 23 42, Dec.row [DV.v (Value.int IntKind.u8 u2)]), (site 23 44, Dec.int i44), (site 23 45, Dec.int i45), (site 23 52, Dec.int i52), (site 23 20, Dec.int i20), (site 23 8002, Dec.drop [188425] [0, 1, 5, 6, 7]), (site 23 8001, Dec.loop [0, 1, 5, 6, 7] x s)] _ [] _ (by kernel_rfl) (AllP_cons h1 (AllP_cons h2 (AllP_cons h3 (AllP_cons h4 (AllP_cons h5 (AllP_cons h6 (AllP_cons h7 (AllP_cons h8 (AllP_cons h9 (AllP_cons h10 (AllP_cons h11 (AllP_cons h12 (AllP_cons h13 (AllP_cons h14 (AllP_cons (rfl : true = true) (AllP_cons (rfl : true = true) (AllP_cons (rfl : true = true) (AllP_cons h15 AllP_nil))))))))))))))))))
theorem mda_yyt2nL (full : Bool) (rows : List (List DV)) (n : Int) (i : Int) (a : Int) (b : Int) (c : Int) (i12 : Int) (u : Int) (i25 : Int) (i31 : Int) (i35 : Int) (i52 : Int) (i20 : Int) (x : X) (s : St) (h1 : ↑(List.length rows) = i12) (h2 : decide (i < i12) = true) (h3 : decide (i < n) = true) (h4 : 0 ≤ i ∧ rows[Int.toNat i]? = some [DV.v (Value.int IntKind.u8 u)]) (h5 : wr64 u = i25) (h6 : Int.tmod i25 3 = 1) (h7 : wr64 (Int.tdiv b 2) = i31) (h8 : Int.tmod b 2 = i35) (h9 : (i35 == 1) = false) (h10 : wr64 (b + 1) = i52) (h11 : wr64 (i + 1) = i20) (h12 : Ev C0 noO (Task.code 23 false (loopOf Try.prog 23 0) { σ := slots 59 [(0, AV.d (DV.sl 1 full rows)), (1, vi n), (5, AV.st 7 [[di 1, di i31, db false, di 0, di 0, di 0, di 0]] 188473 1), (6, AV.ptr 188422 0 0), (7, vi i20)], h := { objs := [(188422, 1, [AO.cells [vi a, vi i52, vi c] false])], toks := [(188473, 1)] } }) (Res.code x s)) :
    Ev C0 noO (Task.code 23 false (loopOf Try.prog 23 0) { σ := slots 59 [(0, AV.d (DV.sl 1 full rows)), (1, vi n), (5, AV.d (DV.v (Value.slice none 0 0))), (6, AV.ptr (site 23 6) 0 0), (7, vi i)], h := H.push { } (site 23 6) (AO.cells [vi a, vi b, vi c] false) }) (.code (x) s) :=
  sym_ev 60 _ [(site 23 12, Dec.int i12), (site 23 13, Dec.b true), (site 23 17, Dec.b true), (site 23 23, Dec.row [DV.v (Value.int IntKind.u8 u)]), (site 23 25, Dec.int i25), (site 23 26, Dec.int 1), (site 23 31, Dec.int i31), (site 23 35, Dec.int i35), (site 23 36, Dec.b false), (site 23 52, Dec.int i52), (site 23 20, Dec.int i20), (site 23 8002, Dec.drop [188425] [0, 1, 5, 6, 7]), (site 23 8001, Dec.loop [0, 1, 5, 6, 7] x s)] _ [] _ (by kernel_rfl) (AllP_cons h1 (AllP_cons h2 (AllP_cons h3 (AllP_cons h4 (AllP_cons h5 (AllP_cons h6 (AllP_cons h7 (AllP_cons h8 (AllP_cons h9 (AllP_cons h10 (AllP_cons h11 (AllP_cons (rfl : true = true) (AllP_cons (rfl : true = true) (AllP_cons (rfl : true = true) (AllP_cons h12 AllP_nil)))))))))))))))
theorem mda_yyt3yL (full : Bool) (rows : List (List DV)) (n : Int) (i : Int) (a : Int) (b : Int) (c : Int) (i12 : Int) (u : Int) (i25 : Int) (i31 : Int) (i35 : Int) (u2 : Int) (i44 : Int) (i45 : Int) (i52 : Int) (i20 : Int) (x : X) (s : St) (h1 : ↑(List.length rows) = i12) (h2 : decide (i < i12) = true) (h3 : decide (i < n) = true) (h4 : 0 ≤ i ∧ rows[Int.toNat i]? = some [DV.v (Value.int IntKind.u8 u)]) (h5 : wr64 u = i25) (h6 : Int.tmod i25 3 = 2) (h7 : wr64 (Int.tdiv c 2) = i31) (h8 : Int.tmod c 2 = i35) (h9 : (i35 == 1) = true) (h10 : 0 ≤ i ∧ rows[Int.toNat i]? = some [DV.v (Value.int IntKind.u8 u2)]) (h11 : wr64 u2 = i44) (h12 : wr64 (Int.tdiv i44 3) = i45) (h13 : wr64 (c + 1) = i52) (h14 : wr64 (i + 1) = i20) (h15 : Ev C0 noO (Task.code 23 false (loopOf Try.prog 23 0) { σ := slots 59 [(0, AV.d (DV.sl 1 full rows)), (1, vi n), (5, AV.st 7 [[di 2, di i31, db true, di 0, di i45, di 0, di 0]] 188473 1), (6, AV.ptr 188422 0 0), (7, vi i20)], h := { objs := [(188422, 1, [AO.cells [vi a, vi b, vi i52] false])], toks := [(188473, 1)] } }) (Res.code x s)) :
    Ev C0 noO (Task.code 23 false (loopOf Try.prog 23 0) { σ := slots 59 [(0, AV.d (DV.sl 1 full rows)), (1, vi n), (5, AV.d (DV.v (Value.slice none 0 0))), (6, AV.ptr (site 23 6) 0 0), (7, vi i)], h := H.push { } (site 23 6) (AO.cells [vi a, vi b, vi c] false) }) (.code (x) s) :=
  sym_ev 60 _ [(site 23 12, Dec.int i12), (site 23 13, Dec.b true), (site 23 17, Dec.b true), (site 23 23, Dec.row [DV.v (Value.int IntKind.u8 u)]), (site 23 25, Dec.int i25), (site 23 26, Dec.int 2), (site 23 31, Dec.int i31), (site 23 35, Dec.int i35), (site 23 36, Dec.b true), (site 23 42, Dec.row [DV.v (Value.int IntKind.u8 u2)]), (site 23 44, Dec.int i44), (site 23 45, Dec.int i45), (site 23 52, Dec.int i52), (site 23 20, Dec.int i20), (site 23 8002, Dec.drop [188425] [0, 1, 5, 6, 7]), (site 23 8001, Dec.loop [0, 1, 5, 6, 7] x s)] _ [] _ (by kernel_rfl) (AllP_cons h1 (AllP_cons h2 (AllP_cons h3 (AllP_cons h4 (AllP_cons h5 (AllP_cons h6 (AllP_cons h7 (AllP_cons h8 (AllP_cons h9 (AllP_cons h10 (AllP_cons h11 (AllP_cons h12 (AllP_cons h13 (AllP_cons h14 (AllP_cons (rfl : true = true) (AllP_cons (rfl : true = true) (AllP_cons (rfl : true = true) (AllP_cons h15 AllP_nil))))))))))))))))))
theorem mda_yyt3nL (full : Bool) (rows : List (List DV)) (n : Int) (i : Int) (a : Int) (b : Int) (c : Int) (i12 : Int) (u : Int) (i25 : Int) (i31 : Int) (i35 : Int) (i52 : Int) (i20 : Int) (x : X) (s : St) (h1 : ↑(List.length rows) = i12) (h2 : decide (i < i12) = true) (h3 : decide (i < n) = true) (h4 : 0 ≤ i ∧ rows[Int.toNat i]? = some [DV.v (Value.int IntKind.u8 u)]) (h5 : wr64 u = i25) (h6 : Int.tmod i25 3 = 2) (h7 : wr64 (Int.tdiv c 2) = i31) (h8 : Int.tmod c 2 = i35) (h9 : (i35 == 1) = false) (h10 : wr64 (c + 1) = i52) (h11 : wr64 (i + 1) = i20) (h12 : Ev C0 noO (Task.code 23 false (loopOf Try.prog 23 0) { σ := slots 59 [(0, AV.d (DV.sl 1 full rows)), (1, vi n), (5, AV.st 7 [[di 2, di i31, db false, di 0, di 0, di 0, di 0]] 188473 1), (6, AV.ptr 188422 0 0), (7, vi i20)], h := { objs := [(188422, 1, [AO.cells [vi a, vi b, vi i52] false])], toks := [(188473, 1)] } }) (Res.code x s)) :
    Ev C0 noO (Task.code 23 false (loopOf Try.prog 23 0) { σ := slots 59 [(0, AV.d (DV.sl 1 full rows)), (1, vi n), (5, AV.d (DV.v (Value.slice none 0 0))), (6, AV.ptr (site 23 6) 0 0), (7, vi i)], h := H.push { } (site 23 6) (AO.cells [vi a, vi b, vi c] false) }) (.code (x) s) :=
  sym_ev 60 _ [(site 23 12, Dec.int i12), (site 23 13, Dec.b true), (site 23 17, Dec.b true), (site 23 23, Dec.row [DV.v (Value.int IntKind.u8 u)]), (site 23 25, Dec.int i25), (site 23 26, Dec.int 2), (site 23 31, Dec.int i31), (site 23 35, Dec.int i35), (site 23 36, Dec.b false), (site 23 52, Dec.int i52), (site 23 20, Dec.int i20), (site 23 8002, Dec.drop [188425] [0, 1, 5, 6, 7]), (site 23 8001, Dec.loop [0, 1, 5, 6, 7] x s)] _ [] _ (by kernel_rfl) (AllP_cons h1 (AllP_cons h2 (AllP_cons h3 (AllP_cons h4 (AllP_cons h5 (AllP_cons h6 (AllP_cons h7 (AllP_cons h8 (AllP_cons h9 (AllP_cons h10 (AllP_cons h11 (AllP_cons (rfl : true = true) (AllP_cons (rfl : true = true) (AllP_cons (rfl : true = true) (AllP_cons h12 AllP_nil)))))))))))))))
theorem mda_yn (full : Bool) (rows : List (List DV)) (n : Int) (i : Int) (a : Int) (b : Int) (c : Int) (i12 : Int) (h1 : ↑(List.length rows) = i12) (h2 : decide (i < i12) = true) (h3 : decide (i < n) = false) :
    Ev C0 noO (Task.code 23 false (loopOf Try.prog 23 0) { σ := slots 59 [(0, AV.d (DV.sl 1 full rows)), (1, vi n), (5, AV.d (DV.v (Value.slice none 0 0))), (6, AV.ptr (site 23 6) 0 0), (7, vi i)], h := H.push { } (site 23 6) (AO.cells [vi a, vi b, vi c] false) }) (.code (X.exit 0) { σ := slots 59 [(5, AV.d (DV.v (Value.slice none 0 0)))], h := { objs := [(188422, 1, [AO.cells [vi a, vi b, vi c] false])] } }) :=
  symD_ev (n := 60) (sc := [(site 23 12, Dec.int i12), (site 23 13, Dec.b true), (site 23 17, Dec.b false)]) (keep := [5]) (L := [188425]) (sc' := []) (by kernel_rfl) (AllP_cons h1 (AllP_cons h2 (AllP_cons h3 (AllP_cons (rfl : true = true) (AllP_cons (rfl : true = true) (AllP_cons (rfl : true = true) AllP_nil))))))
theorem mda_n (full : Bool) (rows : List (List DV)) (n : Int) (i : Int) (a : Int) (b : Int) (c : Int) (i12 : Int) (h1 : ↑(List.length rows) = i12) (h2 : decide (i < i12) = false) :
    Ev C0 noO (Task.code 23 false (loopOf Try.prog 23 0) { σ := slots 59 [(0, AV.d (DV.sl 1 full rows)), (1, vi n), (5, AV.d (DV.v (Value.slice none 0 0))), (6, AV.ptr (site 23 6) 0 0), (7, vi i)], h := H.push { } (site 23 6) (AO.cells [vi a, vi b, vi c] false) }) (.code (X.exit 0) { σ := slots 59 [(5, AV.d (DV.v (Value.slice none 0 0)))], h := { objs := [(188422, 1, [AO.cells [vi a, vi b, vi c] false])] } }) :=
  symD_ev (n := 60) (sc := [(site 23 12, Dec.int i12), (site 23 13, Dec.b false)]) (keep := [5]) (L := [188425]) (sc' := []) (by kernel_rfl) (AllP_cons h1 (AllP_cons h2 (AllP_cons (rfl : true = true) (AllP_cons (rfl : true = true) (AllP_cons (rfl : true = true) AllP_nil)))))

end Go.Ev

namespace Go.Ev
open Go Go.RowKit Go.Proofs

theorem mdb_yyt1yL (full : Bool) (rows : List (List DV)) (n : Int) (i : Int) (a : Int) (b : Int) (c : Int) (out : List (List DV)) (g : Nat) (i12 : Int) (u : Int) (i25 : Int) (i31 : Int) (i35 : Int) (u2 : Int) (i44 : Int) (i45 : Int) (i52 : Int) (i20 : Int) (x : X) (s : St) (h1 : ↑(List.length rows) = i12) (h2 : decide (i < i12) = true) (h3 : decide (i < n) = true) (h4 : 0 ≤ i ∧ rows[Int.toNat i]? = some [DV.v (Value.int IntKind.u8 u)]) (h5 : wr64 u = i25) (h6 : Int.tmod i25 3 = 0) (h7 : wr64 (Int.tdiv a 2) = i31) (h8 : Int.tmod a 2 = i35) (h9 : (i35 == 1) = true) (h10 : 0 ≤ i ∧ rows[Int.toNat i]? = some [DV.v (Value.int IntKind.u8 u2)]) (h11 : wr64 u2 = i44) (h12 : wr64 (Int.tdiv i44 3) = i45) (h13 : wr64 (a + 1) = i52) (h14 : false = false ∧ g = g ∧ fitsP (List.length out) 1 56) (h15 : wr64 (i + 1) = i20) (h16 : Ev C0 noO (Task.code 23 false (loopOf Try.prog 23 0) { σ := slots 59 [(0, AV.d (DV.sl 1 full rows)), (1, vi n), (5, AV.st 7 (out ++ [[di 0, di i31, db true, di 0, di i45, di 0, di 0]]) 188473 (g + 1 + 1)), (6, AV.ptr 188422 0 0), (7, vi i20)], h := { objs := [(188422, 1, [AO.cells [vi i52, vi b, vi c] false])], toks := [(188473, g + 1 + 1)] } }) (Res.code x s)) :
    Ev C0 noO (Task.code 23 false (loopOf Try.prog 23 0) { σ := slots 59 [(0, AV.d (DV.sl 1 full rows)), (1, vi n), (5, AV.st 7 out (site 23 57) g), (6, AV.ptr (site 23 6) 0 0), (7, vi i)], h := H.push { toks := [(site 23 57, g)] } (site 23 6) (AO.cells [vi a, vi b, vi c] false) }) (.code (x) s) :=
  sym_ev 60 _ [(site 23 12, Dec.int i12), (site 23 13, Dec.b true), (site 23 17, Dec.b true), (site 23 23, Dec.row [DV.v (Value.int IntKind.u8 u)]), (site 23 25, Dec.int i25), (site 23 26, Dec.int 0), (site 23 31, Dec.int i31), (site 23 35, Dec.int i35), (site 23 36, Dec.b true), (site 23 42, Dec.row [DV.v (Value.int IntKind.u8 u2)]), (site 23 44, Dec.int i44), (site 23 45, Dec.int i45), (site 23 52, Dec.int i52), (site 23 57, Dec.app false), (site 23 20, Dec.int i20), (site 23 8002, Dec.drop [188425] [0, 1, 5, 6, 7]), (site 23 8001, Dec.loop [0, 1, 5, 6, 7] x s)] _ [] _ (by kernel_rfl) (AllP_cons h1 (AllP_cons h2 (AllP_cons h3 (AllP_cons h4 (AllP_cons h5 (AllP_cons h6 (AllP_cons h7 (AllP_cons h8 (AllP_cons h9 (AllP_cons h10 (AllP_cons h11 (AllP_cons h12 (AllP_cons h13 (AllP_cons h14 (AllP_cons h15 (AllP_cons (rfl : true = true) (AllP_cons (rfl : true = true) (AllP_cons (rfl : true = true) (AllP_cons h16 AllP_nil)))))))))))))))))))
theorem mdb_yyt1nL (full : Bool) (rows : List (List DV)) (n : Int) (i : Int) (a : Int) (b : Int) (c : Int) (out : List (List DV)) (g : Nat) (i12 : Int) (u : Int) (i25 : Int) (i31 : Int) (i35 : Int) (i52 : Int) (i20 : Int) (x : X) (s : St) (h1 : ↑(List.length rows) = i12) (h2 : decide (i < i12) = true) (h3 : decide (i < n) = true) (h4 : 0 ≤ i ∧ rows[Int.toNat i]? = some [DV.v (Value.int IntKind.u8 u)]) (h5 : wr64 u = i25) (h6 : Int.tmod i25 3 = 0) (h7 : wr64 (Int.tdiv a 2) = i31) (h8 : Int.tmod a 2 = i35) (h9 : (i35 == 1) = false) (h10 : wr64 (a + 1) = i52) (h11 : false = false ∧ g = g ∧ fitsP (List.length out) 1 56) (h12 : wr64 (i + 1) = i20) (h13 : Ev C0 noO (Task.code 23 false (loopOf Try.prog 23 0) { σ := slots 59 [(0, AV.d (DV.sl 1 full rows)), (1, vi n), (5, AV.st 7 (out ++ [[di 0, di i31, db false, di 0, di 0, di 0, di 0]]) 188473 (g + 1 + 1)), (6, AV.ptr 188422 0 0), (7, vi i20)], h := { objs := [(188422, 1, [AO.cells [vi i52, vi b, vi c] false])], toks := [(188473, g + 1 + 1)] } }) (Res.code x s)) :
    Ev C0 noO (Task.code 23 false (loopOf Try.prog 23 0) { σ := slots 59 [(0, AV.d (DV.sl 1 full rows)), (1, vi n), (5, AV.st 7 out (site 23 57) g), (6, AV.ptr (site 23 6) 0 0), (7, vi i)], h := H.push { toks := [(site 23 57, g)] } (site 23 6) (AO.cells [vi a, vi b, vi c] false) }) (.code (x) s) :=
  sym_ev 60 _ [(site 23 12, Dec.int i12), (site 23 13, Dec.b true), (site 23 17, Dec.b true), (site 23 23, Dec.row [DV.v (Value.int IntKind.u8 u)]), (site 23 25, Dec.int i25), (site 23 26, Dec.int 0), (site 23 31, Dec.int i31), (site 23 35, Dec.int i35), (site 23 36, Dec.b false), (site 23 52, Dec.int i52), (site 23 57, Dec.app false), (site 23 20, Dec.int i20), (site 23 8002, Dec.drop [188425] [0, 1, 5, 6, 7]), (site 23 8001, Dec.loop [0, 1, 5, 6, 7] x s)] _ [] _ (by kernel_rfl) (AllP_cons h1 (AllP_cons h2 (AllP_cons h3 (AllP_cons h4 (AllP_cons h5 (AllP_cons h6 (AllP_cons h7 (AllP_cons h8 (AllP_cons h9 (AllP_cons h10 (AllP_cons h11 (AllP_cons h12 (AllP_cons (rfl : true = true) (AllP_cons (rfl : true = true) (AllP_cons (rfl : true = true) (AllP_cons h13 AllP_nil))))))))))))))))
theorem mdb_yyt2yL (full : Bool) (rows : List (List DV)) (n : Int) (i : Int) (a : Int) (b : Int) (c : Int) (out : List (List DV)) (g : Nat) (i12 : Int) (u : Int) (i25 : Int) (i31 : Int) (i35 : Int) (u2 : Int) (i44 : Int) (i45 : Int) (i52 : Int) (i20 : Int) (x : X) (s : St) (h1 : ↑(List.length rows) = i12) (h2 : decide (i < i12) = true) (h3 : decide (i < n) = true) (h4 : 0 ≤ i ∧ rows[Int.toNat i]? = some [DV.v (Value.int IntKind.u8 u)]) (h5 : wr64 u = i25) (h6 : Int.tmod i25 3 = 1) (h7 : wr64 (Int.tdiv b 2) = i31) (h8 : Int.tmod b 2 = i35) (h9 : (i35 == 1) = true) (h10 : 0 ≤ i ∧ rows[Int.toNat i]? = some [DV.v (Value.int IntKind.u8 u2)]) (h11 : wr64 u2 = i44) (h12 : wr64 (Int.tdiv i44 3) = i45) (h13 : wr64 (b + 1) = i52) (h14 : false = false ∧ g = g ∧ fitsP (List.length out) 1 56) (h15 : wr64 (i + 1) = i20) (h16 : Ev C0 noO (Task.code 23 false (loopOf Try.prog 23 0) { σ := slots 59 [(0, AV.d (DV.sl 1 full rows)), (1, vi n), (5, AV.st 7 (out ++ [[di 1, di i31, db true, di 0, di i45, di 0, di 0]]) 188473 (g + 1 + 1)), (6, AV.ptr 188422 0 0), (7, vi i20)], h := { objs := [(188422, 1, [AO.cells [vi a, vi i52, vi c] false])], toks := [(188473, g + 1 + 1)] } }) (Res.code x s)) :
    Ev C0 noO (Task.code 23 false (loopOf Try.prog 23 0) { σ := slots 59 [(0, AV.d (DV.sl 1 full rows)), (1, vi n), (5, AV.st 7 out (site 23 57) g), (6, AV.ptr (site 23 6) 0 0), (7, vi i)], h := H.push { toks := [(site 23 57, g)] } (site 23 6) (AO.cells [vi a, vi b, vi c] false) }) (.code (x) s) :=
  sym_ev 60 _ [(site 23 12, Dec.int i12), (site 23 13, Dec.b true), (site 23 17, Dec.b true), (site 23 23, Dec.row [DV.v (Value.int IntKind.u8 u)]), (site 23 25, Dec.int i25), (site 23 26, Dec.int 1), (site 23 31, Dec.int i31), (site 23 35, Dec.int i35), (site 23 36, Dec.b true), (site 23 42, Dec.row [DV.v (Value.int IntKind.u8 u2)]), (site 23 44, Dec.int i44), (site 23 45, Dec.int i45), (site 23 52, Dec.int i52), (site 23 57, Dec.app false), (site 23 20, Dec.int i20), (site 23 8002, Dec.drop [188425] [0, 1, 5, 6, 7]), (site 23 8001, Dec.loop [0, 1, 5, 6, 7] x s)] _ [] _ (by kernel_rfl) (AllP_cons h1 (AllP_cons h2 (AllP_cons h3 (AllP_cons h4 (AllP_cons h5 (AllP_cons h6 (AllP_cons h7 (AllP_cons h8 (AllP_cons h9 (AllP_cons h10 (AllP_cons h11 (AllP_cons h12 (AllP_cons h13 (AllP_cons h14 (AllP_cons h15 (AllP_cons (rfl : true = true) (AllP_cons (rfl : true = true) (AllP_cons (rfl : true = true) (AllP_cons h16 AllP_nil)))))))))))))))))))
theorem mdb_yyt2nL (full : Bool) (rows : List (List DV)) (n : Int) (i : Int) (a : Int) (b : Int) (c : Int) (out : List (List DV)) (g : Nat) (i12 : Int) (u : Int) (i25 : Int) (i31 : Int) (i35 : Int) (i52 : Int) (i20 : Int) (x : X) (s : St) (h1 : ↑(List.length rows) = i12) (h2 : decide (i < i12) = true) (h3 : decide (i < n) = true) (h4 : 0 ≤ i ∧ rows[Int.toNat i]? = some [DV.v (Value.int IntKind.u8 u)]) (h5 : wr64 u = i25) (h6 : Int.tmod i25 3 = 1) (h7 : wr64 (Int.tdiv b 2) = i31) (h8 : Int.tmod b 2 = i35) (h9 : (i35 == 1) = false) (h10 : wr64 (b + 1) = i52) (h11 : false = false ∧ g = g ∧ fitsP (List.length out) 1 56) (h12 : wr64 (i + 1) = i20) (h13 : Ev C0 noO (Task.code 23 false (loopOf Try.prog 23 0) { σ := slots 59 [(0, AV.d (DV.sl 1 full rows)), (1, vi n), (5, AV.st 7 (out ++ [[di 1, di i31, db false, di 0, di 0, di 0, di 0]]) 188473 (g + 1 + 1)), (6, AV.ptr 188422 0 0), (7, vi i20)], h := { objs := [(188422, 1, [AO.cells [vi a, vi i52, vi c] false])], toks := [(188473, g + 1 + 1)] } }) (Res.code x s)) :
    Ev C0 noO (Task.code 23 false (loopOf Try.prog 23 0) { σ := slots 59 [(0, AV.d (DV.sl 1 full rows)), (1, vi n), (5, AV.st 7 out (site 23 57) g), (6, AV.ptr (site 23 6) 0 0), (7, vi i)], h := H.push { toks := [(site 23 57, g)] } (site 23 6) (AO.cells [vi a, vi b, vi c] false) }) (.code (x) s) :=
  sym_ev 60 _ [(site 23 12, Dec.int i12), (site 23 13, Dec.b true), (site 23 17, Dec.b true), (site 23 23, Dec.row [DV.v (Value.int IntKind.u8 u)]), (site 23 25, Dec.int i25), (site 23 26, Dec.int 1), (site 23 31, Dec.int i31), (site 23 35, Dec.int i35), (site 23 36, Dec.b false), (site 23 52, Dec.int i52), (site 23 57, Dec.app false), (site 23 20, Dec.int i20), (site 23 8002, Dec.drop [188425] [0, 1, 5, 6, 7]), (site 23 8001, Dec.loop [0, 1, 5, 6, 7] x s)] _ [] _ (by kernel_rfl) (AllP_cons h1 (AllP_cons h2 (AllP_cons h3 (AllP_cons h4 (AllP_cons h5 (AllP_cons h6 (AllP_cons h7 (AllP_cons h8 (AllP_cons h9 (AllP_cons h10 (AllP_cons h11 (AllP_cons h12 (AllP_cons (rfl : true = true) (AllP_cons (rfl : true = true) (AllP_cons (rfl : true = true) (AllP_cons h13 AllP_nil))))))))))))))))
theorem mdb_yyt3yL (full : Bool) (rows : List (List DV)) (n : Int) (i : Int) (a : Int) (b : Int) (c : Int) (out : List (List DV)) (g : Nat) (i12 : Int) (u : Int) (i25 : Int) (i31 : Int) (i35 : Int) (u2 : Int) (i44 : Int) (i45 : Int) (i52 : Int) (i20 : Int) (x : X) (s : St) (h1 : ↑(List.length rows) = i12) (h2 : decide (i < i12) = true) (h3 : decide (i < n) = true) (h4 : 0 ≤ i ∧ rows[Int.toNat i]? = some [DV.v (Value.int IntKind.u8 u)]) (h5 : wr64 u = i25) (h6 : Int.tmod i25 3 = 2) (h7 : wr64 (Int.tdiv c 2) = i31) (h8 : Int.tmod c 2 = i35) (h9 : (i35 == 1) = true) (h10 : 0 ≤ i ∧ rows[Int.toNat i]? = some [DV.v (Value.int IntKind.u8 u2)]) (h11 : wr64 u2 = i44) (h12 : wr64 (Int.tdiv i44 3) = i45) (h13 : wr64 (c + 1) = i52) (h14 : false = false ∧ g = g ∧ fitsP (List.length out) 1 56) (h15 : wr64 (i + 1) = i20) (h16 : Ev C0 noO (Task.code 23 false (loopOf Try.prog 23 0) { σ := slots 59 [(0, AV.d (DV.sl 1 full rows)), (1, vi n), (5, AV.st 7 (out ++ [[di 2, di i31, db true, di 0, di i45, di 0, di 0]]) 188473 (g + 1 + 1)), (6, AV.ptr 188422 0 0), (7, vi i20)], h := { objs := [(188422, 1, [AO.cells [vi a, vi b, vi i52] false])], toks := [(188473, g + 1 + 1)] } }) (Res.code x s)) :
    Ev C0 noO (Task.code 23 false (loopOf Try.prog 23 0) { σ := slots 59 [(0, AV.d (DV.sl 1 full rows)), (1, vi n), (5, AV.st 7 out (site 23 57) g), (6, AV.ptr (site 23 6) 0 0), (7, vi i)], h := H.push { toks := [(site 23 57, g)] } (site 23 6) (AO.cells [vi a, vi b, vi c] false) }) (.code (x) s) :=
  sym_ev 60 _ [(site 23 12, Dec.int i12), (site 23 13, Dec.b true), (site 23 17, Dec.b true), (site 23 23, Dec.row [DV.v (Value.int IntKind.u8 u)]), (site 23 25, Dec.int i25), (site 23 26, Dec.int 2), (site 23 31, Dec.int i31), (site 23 35, Dec.int i35), (site 23 36, Dec.b true), (site 23 42, Dec.row [DV.v (Value.int IntKind.u8 u2)]), (site 23 44, Dec.int i44), (site 23 45, Dec.int i45), (site 23 52, Dec.int i52), (site 23 57, Dec.app false), (site 23 20, Dec.int i20), (site 23 8002, Dec.drop [188425] [0, 1, 5, 6, 7]), (site 23 8001, Dec.loop [0, 1, 5, 6, 7] x s)] _ [] _ (by kernel_rfl) (AllP_cons h1 (AllP_cons h2 (AllP_cons h3 (AllP_cons h4 (AllP_cons h5 (AllP_cons h6 (AllP_cons h7 (AllP_cons h8 (AllP_cons h9 (AllP_cons h10 (AllP_cons h11 (AllP_cons h12 (AllP_cons h13 (AllP_cons h14 (AllP_cons h15 (AllP_cons (rfl : true = true) (AllP_cons (rfl : true = true) (AllP_cons (rfl : true = true) (AllP_cons h16 AllP_nil)))))))))))))))))))
theorem mdb_yyt3nL (full : Bool) (rows : List (List DV)) (n : Int) (i : Int) (a : Int) (b : Int) (c : Int) (out : List (List DV)) (g : Nat) (i12 : Int) (u : Int) (i25 : Int) (i31 : Int) (i35 : Int) (i52 : Int) (i20 : Int) (x : X) (s : St) (h1 : ↑(List.length rows) = i12) (h2 : decide (i < i12) = true) (h3 : decide (i < n) = true) (h4 : 0 ≤ i ∧ rows[Int.toNat i]? = some [DV.v (Value.int IntKind.u8 u)]) (h5 : wr64 u = i25) (h6 : Int.tmod i25 3 = 2) (h7 : wr64 (Int.tdiv c 2) = i31) (h8 : Int.tmod c 2 = i35) (h9 : (i35 == 1) = false) (h10 : wr64 (c + 1) = i52) (h11 : false = false ∧ g = g ∧ fitsP (List.length out) 1 56) (h12 : wr64 (i + 1) = i20) (h13 : Ev C0 noO (Task.code 23 false (loopOf Try.prog 23 0) { σ := slots 59 [(0, AV.d (DV.sl 1 full rows)), (1, vi n), (5, AV.st 7 (out ++ [[di 2, di i31, db false, di 0, di 0, di 0, di 0]]) 188473 (g + 1 + 1)), (6, AV.ptr 188422 0 0), (7, vi i20)], h := { objs := [(188422, 1, [AO.cells [vi a, vi b, vi i52] false])], toks := [(188473, g + 1 + 1)] } }) (Res.code x s)) :
    Ev C0 noO (Task.code 23 false (loopOf Try.prog 23 0) { σ := slots 59 [(0, AV.d (DV.sl 1 full rows)), (1, vi n), (5, AV.st 7 out (site 23 57) g), (6, AV.ptr (site 23 6) 0 0), (7, vi i)], h := H.push { toks := [(site 23 57, g)] } (site 23 6) (AO.cells [vi a, vi b, vi c] false) }) (.code (x) s) :=
  sym_ev 60 _ [(site 23 12, Dec.int i12), (site 23 13, Dec.b true), (site 23 17, Dec.b true), (site 23 23, Dec.row [DV.v (Value.int IntKind.u8 u)]), (site 23 25, Dec.int i25), (site 23 26, Dec.int 2), (site 23 31, Dec.int i31), (site 23 35, Dec.int i35), (site 23 36, Dec.b false), (site 23 52, Dec.int i52), (site 23 57, Dec.app false), (site 23 20, Dec.int i20), (site 23 8002, Dec.drop [188425] [0, 1, 5, 6, 7]), (site 23 8001, Dec.loop [0, 1, 5, 6, 7] x s)] _ [] _ (by kernel_rfl) (AllP_cons h1 (AllP_cons h2 (AllP_cons h3 (AllP_cons h4 (AllP_cons h5 (AllP_cons h6 (AllP_cons h7 (AllP_cons h8 (AllP_cons h9 (AllP_cons h10 (AllP_cons h11 (AllP_cons h12 (AllP_cons (rfl : true = true) (AllP_cons (rfl : true = true) (AllP_cons (rfl : true = true) (AllP_cons h13 AllP_nil))))))))))))))))
theorem mdb_yn (full : Bool) (rows : List (List DV)) (n : Int) (i : Int) (a : Int) (b : Int) (c : Int) (out : List (List DV)) (g : Nat) (i12 : Int) (h1 : ↑(List.length rows) = i12) (h2 : decide (i < i12) = true) (h3 : decide (i < n) = false) :
    Ev C0 noO (Task.code 23 false (loopOf Try.prog 23 0) { σ := slots 59 [(0, AV.d (DV.sl 1 full rows)), (1, vi n), (5, AV.st 7 out (site 23 57) g), (6, AV.ptr (site 23 6) 0 0), (7, vi i)], h := H.push { toks := [(site 23 57, g)] } (site 23 6) (AO.cells [vi a, vi b, vi c] false) }) (.code (X.exit 0) { σ := slots 59 [(5, AV.st 7 out 188473 g)], h := { objs := [(188422, 1, [AO.cells [vi a, vi b, vi c] false])], toks := [(188473, g)] } }) :=
  symD_ev (n := 60) (sc := [(site 23 12, Dec.int i12), (site 23 13, Dec.b true), (site 23 17, Dec.b false)]) (keep := [5]) (L := [188425]) (sc' := []) (by kernel_rfl) (AllP_cons h1 (AllP_cons h2 (AllP_cons h3 (AllP_cons (rfl : true = true) (AllP_cons (rfl : true = true) (AllP_cons (rfl : true = true) AllP_nil))))))
theorem mdb_n (full : Bool) (rows : List (List DV)) (n : Int) (i : Int) (a : Int) (b : Int) (c : Int) (out : List (List DV)) (g : Nat) (i12 : Int) (h1 : ↑(List.length rows) = i12) (h2 : decide (i < i12) = false) :
    Ev C0 noO (Task.code 23 false (loopOf Try.prog 23 0) { σ := slots 59 [(0, AV.d (DV.sl 1 full rows)), (1, vi n), (5, AV.st 7 out (site 23 57) g), (6, AV.ptr (site 23 6) 0 0), (7, vi i)], h := H.push { toks := [(site 23 57, g)] } (site 23 6) (AO.cells [vi a, vi b, vi c] false) }) (.code (X.exit 0) { σ := slots 59 [(5, AV.st 7 out 188473 g)], h := { objs := [(188422, 1, [AO.cells [vi a, vi b, vi c] false])], toks := [(188473, g)] } }) :=
  symD_ev (n := 60) (sc := [(site 23 12, Dec.int i12), (site 23 13, Dec.b false)]) (keep := [5]) (L := [188425]) (sc' := []) (by kernel_rfl) (AllP_cons h1 (AllP_cons h2 (AllP_cons (rfl : true = true) (AllP_cons (rfl : true = true) (AllP_cons (rfl : true = true) AllP_nil)))))

end Go.Ev

namespace Go.Ev
open Go Go.RowKit Go.Proofs

theorem mdc_l1 (full : Bool) (rows : List (List DV)) (n : Int) (out : List (List DV)) (g : Nat) (h1 : Ev C0 noO (Task.code 23 false (loopOf Try.prog 23 0) { σ := slots 59 [(0, AV.d (DV.sl 1 full rows)), (1, vi n), (5, AV.d (DV.v (Value.slice none 0 0))), (6, AV.ptr 188422 0 0), (7, vi 0)], h := { objs := [(188422, 1, [AO.cells [vi 0, vi 0, vi 0] false])] } }) (Res.code (X.exit 0) { σ := slots 59 [(5, AV.d (DV.v (Value.slice none 0 0)))], h := H.push { } (site 23 6) AO.dead })) :
    Ev C0 noO (Task.call 23 [AV.d (DV.sl 1 full rows), vi n] { }) (.val (AV.d (DV.v (Value.slice none 0 0))) { objs := [(188422, 1, [AO.dead])] }) :=
  sym_ev 60 _ [(site 23 8001, Dec.loop [0, 1, 5, 6, 7] (X.exit 0) { σ := slots 59 [(5, AV.d (DV.v (Value.slice none 0 0)))], h := H.push { } (site 23 6) AO.dead })] _ [] _ (by kernel_rfl) (AllP_cons h1 AllP_nil)
theorem mdc_l2 (full : Bool) (rows : List (List DV)) (n : Int) (out : List (List DV)) (g : Nat) (h1 : Ev C0 noO (Task.code 23 false (loopOf Try.prog 23 0) { σ := slots 59 [(0, AV.d (DV.sl 1 full rows)), (1, vi n), (5, AV.d (DV.v (Value.slice none 0 0))), (6, AV.ptr 188422 0 0), (7, vi 0)], h := { objs := [(188422, 1, [AO.cells [vi 0, vi 0, vi 0] false])] } }) (Res.code (X.exit 0) { σ := slots 59 [(5, AV.st 7 out (site 23 57) g)], h := H.push { toks := [(site 23 57, g)] } (site 23 6) AO.dead })) :
    Ev C0 noO (Task.call 23 [AV.d (DV.sl 1 full rows), vi n] { }) (.val (AV.st 7 out 188473 g) { objs := [(188422, 1, [AO.dead])], toks := [(188473, g)] }) :=
  sym_ev 60 _ [(site 23 8001, Dec.loop [0, 1, 5, 6, 7] (X.exit 0) { σ := slots 59 [(5, AV.st 7 out (site 23 57) g)], h := H.push { toks := [(site 23 57, g)] } (site 23 6) AO.dead })] _ [] _ (by kernel_rfl) (AllP_cons h1 AllP_nil)
theorem mdN_ (n : Int) (h1 : Ev C0 noO (Task.code 23 false (loopOf Try.prog 23 0) { σ := slots 59 [(0, AV.d (DV.v (Value.slice none 0 0))), (1, vi n), (5, AV.d (DV.v (Value.slice none 0 0))), (6, AV.ptr 188422 0 0), (7, vi 0)], h := { objs := [(188422, 1, [AO.cells [vi 0, vi 0, vi 0] false])] } }) (Res.code (X.exit 0) { σ := slots 59 [(5, AV.d (DV.v (Value.slice none 0 0)))], h := H.push { } (site 23 6) AO.dead })) :
    Ev C0 noO (Task.call 23 [AV.d (DV.v (Value.slice none 0 0)), vi n] { }) (.val (AV.d (DV.v (Value.slice none 0 0))) { objs := [(188422, 1, [AO.dead])] }) :=
  sym_ev 60 _ [(site 23 8001, Dec.loop [0, 1, 5, 6, 7] (X.exit 0) { σ := slots 59 [(5, AV.d (DV.v (Value.slice none 0 0)))], h := H.push { } (site 23 6) AO.dead })] _ [] _ (by kernel_rfl) (AllP_cons h1 AllP_nil)
theorem mdA_ (n : Int) :
    Ev C0 noO (Task.code 23 false (loopOf Try.prog 23 0) { σ := slots 59 [(0, AV.d (DV.v (Value.slice none 0 0))), (1, vi n), (5, AV.d (DV.v (Value.slice none 0 0))), (6, AV.ptr (site 23 6) 0 0), (7, vi 0)], h := H.push { } (site 23 6) (AO.cells [vi 0, vi 0, vi 0] false) }) (.code (X.exit 0) { σ := slots 59 [(5, AV.d (DV.v (Value.slice none 0 0)))], h := { objs := [(188422, 1, [AO.cells [vi 0, vi 0, vi 0] false])] } }) :=
  symM_ev (n := 60) (sc := []) (keep := [5]) (sc' := []) (by kernel_rfl) AllP_nil

end Go.Ev

namespace Go.Ev
open Go Go.RowKit Go.Proofs

def rowsU (l : List Int) : List (List DV) := l.map fun u => [.v (.int .u8 u)]
def byteI : List DV → Option Int
  | [.v (.int .u8 u)] => if 0 ≤ u ∧ u < 256 then some u else none
  | _ => none
theorem byteI_eq {r : List DV} {u : Int} (h : byteI r = some u) : r = [.v (.int .u8 u)] ∧ 0 ≤ u ∧ u < 256 := by
  unfold byteI at h
  split at h
  · split at h
    · rename_i hu
      simp only [Option.some.injEq] at h
      subst h
      exact ⟨rfl, hu⟩
    · cases h
  · cases h
def Bytes (l : List Int) : Prop := ∀ u ∈ l, 0 ≤ u ∧ u < 256
def bytesOf (p : PV) : Option (List Int) := match sliceOf 1 p with
  | some rows => allSome byteI rows
  | none => none
theorem allSome_mem {α β : Type} {f : α → Option β} : ∀ {l : List α} {x : List β}, allSome f l = some x → ∀ b ∈ x, ∃ a ∈ l, f a = some b
  | [], x, h => by simp [allSome] at h; subst h; intro b hb; cases hb
  | a :: l, x, h => by
    simp only [allSome] at h
    cases hy : f a with
    | none => rw [hy] at h; cases h
    | some y =>
      rw [hy] at h
      cases hys : allSome f l with
      | none => rw [hys] at h; cases h
      | some ys =>
        rw [hys] at h
        simp only [Option.some.injEq] at h
        subst h
        intro b hb
        rcases List.mem_cons.1 hb with rfl | hb
        · exact ⟨a, by simp, hy⟩
        · obtain ⟨c, hc, h2⟩ := allSome_mem hys b hb
          exact ⟨c, by simp [hc], h2⟩
theorem bytesOf_cases {p : PV} {l : List Int} (h : bytesOf p = some l) : Bytes l ∧ ((p = .one (.v (.slice none 0 0)) ∧ l = []) ∨ ∃ full, p = .one (.sl 1 full (rowsU l))) := by
  unfold bytesOf at h
  split at h
  · rename_i rows hr
    refine ⟨fun u hu => ?_, ?_⟩
    · obtain ⟨r, -, h2⟩ := allSome_mem h u hu
      exact (byteI_eq h2).2
    · rcases sliceOf_cases hr with ⟨rfl, rfl⟩ | ⟨full, rfl⟩
      · simp [allSome] at h; exact .inl ⟨rfl, h⟩
      · exact .inr ⟨full, by rw [rows_eq (g := fun u => [.v (.int .u8 u)]) (fun _ _ h => (byteI_eq h).1) h]; rfl⟩
  · cases h

def upd (f : Int → Int) (k : Int) : Int → Int := fun j => if j = k then f k + 1 else f j
def mkE (k x u : Int) : Evt := if x % 2 = 1 then ⟨k, x / 2, true, ⟨0, u / 3, 0, 0⟩⟩ else ⟨k, x / 2, false, ans0⟩
def madeL : (Int → Int) → List Int → List Evt
  | _, [] => []
  | f, u :: r => mkE (u % 3) (f (u % 3)) u :: madeL (upd f (u % 3)) r
def madeI (n : Int) (l : List Int) : List Evt := madeL (fun _ => 0) (l.take n.toNat)

def mdCells (f : Int → Int) : List AV := [vi (f 0), vi (f 1), vi (f 2)]
def mdHd (y : DV) (n i : Int) (f : Int → Int) (out : List (List DV)) (g : Nat) : St := { σ := slots 59 [(0, .d y), (1, vi n), (5, .st 7 out (site 23 57) g), (6, .ptr (site 23 6) 0 0), (7, vi i)], h := ({ toks := [(site 23 57, g)] } : H).push (site 23 6) (.cells (mdCells f) false) }
def mdHn (y : DV) (n i : Int) (f : Int → Int) : St := { σ := slots 59 [(0, .d y), (1, vi n), (5, .d (.v (.slice none 0 0))), (6, .ptr (site 23 6) 0 0), (7, vi i)], h := ({} : H).push (site 23 6) (.cells (mdCells f) false) }
def mdOut (out : List (List DV)) (g : Nat) : St := { σ := slots 59 [(5, .st 7 out (site 23 57) g)], h := ({ toks := [(site 23 57, g)] } : H).push (site 23 6) .dead }
def mdOn : St := { σ := slots 59 [(5, .d (.v (.slice none 0 0)))], h := ({} : H).push (site 23 6) .dead }
theorem killMd {fn : FuncId} {rd : Bool} {c : Code} {s : St} {x : X} {σ : List AV} {o : AO} {g : Nat} (h : Ev C0 noO (.code fn rd c s) (.code x { σ := σ, h := ({ toks := [(site 23 57, g)] } : H).push (site 23 6) o })) :
    Ev C0 noO (.code fn rd c s) (.code x { σ := σ, h := ({ toks := [(site 23 57, g)] } : H).push (site 23 6) .dead }) :=
  .killOut _ _ _ _ _ _ (site 23 6) 0 o rfl h
theorem killMn {fn : FuncId} {rd : Bool} {c : Code} {s : St} {x : X} {σ : List AV} {o : AO} (h : Ev C0 noO (.code fn rd c s) (.code x { σ := σ, h := ({} : H).push (site 23 6) o })) :
    Ev C0 noO (.code fn rd c s) (.code x { σ := σ, h := ({} : H).push (site 23 6) .dead }) :=
  .killOut _ _ _ _ _ _ (site 23 6) 0 o rfl h

theorem upd_ok {f : Int → Int} {m : Nat} (hf : ∀ k, 0 ≤ f k ∧ f k ≤ m) (j : Int) : ∀ k, 0 ≤ upd f j k ∧ upd f j k ≤ ((m + 1 : Nat) : Int) := by
  intro k
  have h1 := hf k
  have h2 := hf j
  unfold upd
  split <;> omega
theorem mdC0 (f : Int → Int) : mdCells (upd f 0) = [vi (f 0 + 1), vi (f 1), vi (f 2)] := by simp [mdCells, upd]
theorem mdC1 (f : Int → Int) : mdCells (upd f 1) = [vi (f 0), vi (f 1 + 1), vi (f 2)] := by simp [mdCells, upd]
theorem mdC2 (f : Int → Int) : mdCells (upd f 2) = [vi (f 0), vi (f 1), vi (f 2 + 1)] := by simp [mdCells, upd]
theorem take_suc {n : Int} {m : Nat} (h : (m : Int) < n) (u : Int) (r : List Int) : (u :: r).take (n - (m : Nat)).toNat = u :: r.take (n - ((m + 1 : Nat) : Int)).toNat := by
  have : (n - (m : Nat)).toNat = (n - ((m + 1 : Nat) : Int)).toNat + 1 := by omega
  rw [this, List.take_succ_cons]
theorem take_zer {n : Int} {m : Nat} (h : ¬ (m : Int) < n) (l : List Int) : l.take (n - (m : Nat)).toNat = [] := by
  have : (n - (m : Nat)).toNat = 0 := by omega
  rw [this, List.take_zero]

theorem mb_loop (full : Bool) (n : Int) (all : List Int) (hU : Bytes all) (hb : n < 2 ^ 40) : ∀ (rest pre : List Int) (f : Int → Int) (out : List (List DV)) (g : Nat), pre ++ rest = all → (∀ k, 0 ≤ f k ∧ f k ≤ (pre.length : Nat)) → out.length ≤ pre.length →
    ∃ g', Ev C0 noO (.code 23 false (loopOf Try.prog 23 0) (mdHd (.sl 1 full (rowsU all)) n (pre.length : Nat) f out g)) (.code (.exit 0) (mdOut (out ++ evRows (madeL f (rest.take (n - (pre.length : Nat)).toNat))) g'))
  | [], pre, f, out, g, h, hf, ho => ⟨g, by
    have e : out ++ evRows (madeL f (([] : List Int).take (n - (pre.length : Nat)).toNat)) = out := by simp [madeL, evRows]
    rw [e]
    exact killMd (o := .cells (mdCells f) false) (mdb_n full (rowsU all) n (pre.length : Nat) _ _ _ out g (all.length : Nat) (by simp [rowsU]) (dge (by subst h; simp)))⟩
  | u :: rest, pre, f, out, g, h, hf, ho => by
    have hlt := pre_lt h
    have hrow := row_at (g := fun u : Int => [DV.v (.int .u8 u)]) h
    have hl : (((rowsU all).length : Nat) : Int) = (all.length : Nat) := by simp [rowsU]
    have hu : 0 ≤ u ∧ u < 256 := hU u (by rw [← h]; simp)
    by_cases hn : ((pre.length : Nat) : Int) < n
    case neg =>
      refine ⟨g, ?_⟩
      have e : out ++ evRows (madeL f ((u :: rest).take (n - (pre.length : Nat)).toNat)) = out := by rw [take_zer hn]; simp [madeL, evRows]
      rw [e]
      exact killMd (o := .cells (mdCells f) false) (mdb_yn full (rowsU all) n (pre.length : Nat) _ _ _ out g (all.length : Nat) hl (dlt hlt) (decide_eq_false hn))
    have w1 : wr64 u = u := wrap_ok (by omega) (by omega)
    have hq3 : wr64 (Int.tdiv u 3) = u / 3 := by rw [Int.tdiv_eq_ediv_of_nonneg hu.1]; exact wrap_ok (by omega) (by omega)
    have hfk := hf (u % 3)
    have hq : wr64 (Int.tdiv (f (u % 3)) 2) = f (u % 3) / 2 := by rw [Int.tdiv_eq_ediv_of_nonneg hfk.1]; exact wrap_ok (by omega) (by omega)
    have ht : Int.tmod (f (u % 3)) 2 = f (u % 3) % 2 := Int.tmod_eq_emod_of_nonneg hfk.1
    have hs3 : wr64 (f (u % 3) + 1) = f (u % 3) + 1 := wrap_ok (by omega) (by omega)
    have ih := fun f out g hf ho => mb_loop full n all hU hb rest (pre ++ [u]) f out g (pre_snoc h) hf ho
    simp only [len_snoc] at ih
    rcases (by omega : u % 3 = 0 ∨ u % 3 = 1 ∨ u % 3 = 2) with hk | hk | hk
    · -- 0
      rw [hk] at hq ht hs3
      have hm : Int.tmod u 3 = 0 := by rw [Int.tmod_eq_emod_of_nonneg hu.1, hk]
      rw [take_suc hn, madeL, hk]
      by_cases hx : f 0 % 2 = 1
      · have he : mkE 0 (f 0) u = ⟨0, f 0 / 2, true, ⟨0, u / 3, 0, 0⟩⟩ := by unfold mkE; rw [if_pos hx]
        obtain ⟨g', ih⟩ := ih (upd f 0) (out ++ [(mkE 0 (f 0) u).row]) (g + 1 + 1) (upd_ok hf _) (by simp; omega)
        refine ⟨g', ?_⟩
        rw [he] at ih ⊢
        rw [show out ++ evRows (_ :: madeL (upd f 0) (rest.take (n - ((pre.length + 1 : Nat) : Int)).toNat)) = (out ++ [(⟨0, f 0 / 2, true, ⟨0, u / 3, 0, 0⟩⟩ : Evt).row]) ++ evRows (madeL (upd f 0) (rest.take (n - ((pre.length + 1 : Nat) : Int)).toNat)) by simp [evRows]]
        rw [mdHd, mdC0] at ih
        exact mdb_yyt1yL full _ n _ _ _ _ out g _ u _ _ _ u _ _ _ _ _ _ hl (dlt hlt) (decide_eq_true hn) hrow w1 hm hq ht (by simp [hx]) hrow w1 hq3 hs3 ⟨rfl, rfl, by unfold fitsP; omega⟩ (wrap_succ (by omega)) ih
      · have he : mkE 0 (f 0) u = ⟨0, f 0 / 2, false, ans0⟩ := by unfold mkE; rw [if_neg hx]
        obtain ⟨g', ih⟩ := ih (upd f 0) (out ++ [(mkE 0 (f 0) u).row]) (g + 1 + 1) (upd_ok hf _) (by simp; omega)
        refine ⟨g', ?_⟩
        rw [he] at ih ⊢
        rw [show out ++ evRows (_ :: madeL (upd f 0) (rest.take (n - ((pre.length + 1 : Nat) : Int)).toNat)) = (out ++ [(⟨0, f 0 / 2, false, ans0⟩ : Evt).row]) ++ evRows (madeL (upd f 0) (rest.take (n - ((pre.length + 1 : Nat) : Int)).toNat)) by simp [evRows]]
        rw [mdHd, mdC0] at ih
        exact mdb_yyt1nL full _ n _ _ _ _ out g _ u _ _ _ _ _ _ _ hl (dlt hlt) (decide_eq_true hn) hrow w1 hm hq ht (by simp [hx]) hs3 ⟨rfl, rfl, by unfold fitsP; omega⟩ (wrap_succ (by omega)) ih
    · -- 1
      rw [hk] at hq ht hs3
      have hm : Int.tmod u 3 = 1 := by rw [Int.tmod_eq_emod_of_nonneg hu.1, hk]
      rw [take_suc hn, madeL, hk]
      by_cases hx : f 1 % 2 = 1
      · have he : mkE 1 (f 1) u = ⟨1, f 1 / 2, true, ⟨0, u / 3, 0, 0⟩⟩ := by unfold mkE; rw [if_pos hx]
        obtain ⟨g', ih⟩ := ih (upd f 1) (out ++ [(mkE 1 (f 1) u).row]) (g + 1 + 1) (upd_ok hf _) (by simp; omega)
        refine ⟨g', ?_⟩
        rw [he] at ih ⊢
        rw [show out ++ evRows (_ :: madeL (upd f 1) (rest.take (n - ((pre.length + 1 : Nat) : Int)).toNat)) = (out ++ [(⟨1, f 1 / 2, true, ⟨0, u / 3, 0, 0⟩⟩ : Evt).row]) ++ evRows (madeL (upd f 1) (rest.take (n - ((pre.length + 1 : Nat) : Int)).toNat)) by simp [evRows]]
        rw [mdHd, mdC1] at ih
        exact mdb_yyt2yL full _ n _ _ _ _ out g _ u _ _ _ u _ _ _ _ _ _ hl (dlt hlt) (decide_eq_true hn) hrow w1 hm hq ht (by simp [hx]) hrow w1 hq3 hs3 ⟨rfl, rfl, by unfold fitsP; omega⟩ (wrap_succ (by omega)) ih
      · have he : mkE 1 (f 1) u = ⟨1, f 1 / 2, false, ans0⟩ := by unfold mkE; rw [if_neg hx]
        obtain ⟨g', ih⟩ := ih (upd f 1) (out ++ [(mkE 1 (f 1) u).row]) (g + 1 + 1) (upd_ok hf _) (by simp; omega)
        refine ⟨g', ?_⟩
        rw [he] at ih ⊢
        rw [show out ++ evRows (_ :: madeL (upd f 1) (rest.take (n - ((pre.length + 1 : Nat) : Int)).toNat)) = (out ++ [(⟨1, f 1 / 2, false, ans0⟩ : Evt).row]) ++ evRows (madeL (upd f 1) (rest.take (n - ((pre.length + 1 : Nat) : Int)).toNat)) by simp [evRows]]
        rw [mdHd, mdC1] at ih
        exact mdb_yyt2nL full _ n _ _ _ _ out g _ u _ _ _ _ _ _ _ hl (dlt hlt) (decide_eq_true hn) hrow w1 hm hq ht (by simp [hx]) hs3 ⟨rfl, rfl, by unfold fitsP; omega⟩ (wrap_succ (by omega)) ih
    · -- 2
      rw [hk] at hq ht hs3
      have hm : Int.tmod u 3 = 2 := by rw [Int.tmod_eq_emod_of_nonneg hu.1, hk]
      rw [take_suc hn, madeL, hk]
      by_cases hx : f 2 % 2 = 1
      · have he : mkE 2 (f 2) u = ⟨2, f 2 / 2, true, ⟨0, u / 3, 0, 0⟩⟩ := by unfold mkE; rw [if_pos hx]
        obtain ⟨g', ih⟩ := ih (upd f 2) (out ++ [(mkE 2 (f 2) u).row]) (g + 1 + 1) (upd_ok hf _) (by simp; omega)
        refine ⟨g', ?_⟩
        rw [he] at ih ⊢
        rw [show out ++ evRows (_ :: madeL (upd f 2) (rest.take (n - ((pre.length + 1 : Nat) : Int)).toNat)) = (out ++ [(⟨2, f 2 / 2, true, ⟨0, u / 3, 0, 0⟩⟩ : Evt).row]) ++ evRows (madeL (upd f 2) (rest.take (n - ((pre.length + 1 : Nat) : Int)).toNat)) by simp [evRows]]
        rw [mdHd, mdC2] at ih
        exact mdb_yyt3yL full _ n _ _ _ _ out g _ u _ _ _ u _ _ _ _ _ _ hl (dlt hlt) (decide_eq_true hn) hrow w1 hm hq ht (by simp [hx]) hrow w1 hq3 hs3 ⟨rfl, rfl, by unfold fitsP; omega⟩ (wrap_succ (by omega)) ih
      · have he : mkE 2 (f 2) u = ⟨2, f 2 / 2, false, ans0⟩ := by unfold mkE; rw [if_neg hx]
        obtain ⟨g', ih⟩ := ih (upd f 2) (out ++ [(mkE 2 (f 2) u).row]) (g + 1 + 1) (upd_ok hf _) (by simp; omega)
        refine ⟨g', ?_⟩
        rw [he] at ih ⊢
        rw [show out ++ evRows (_ :: madeL (upd f 2) (rest.take (n - ((pre.length + 1 : Nat) : Int)).toNat)) = (out ++ [(⟨2, f 2 / 2, false, ans0⟩ : Evt).row]) ++ evRows (madeL (upd f 2) (rest.take (n - ((pre.length + 1 : Nat) : Int)).toNat)) by simp [evRows]]
        rw [mdHd, mdC2] at ih
        exact mdb_yyt3nL full _ n _ _ _ _ out g _ u _ _ _ _ _ _ _ hl (dlt hlt) (decide_eq_true hn) hrow w1 hm hq ht (by simp [hx]) hs3 ⟨rfl, rfl, by unfold fitsP; omega⟩ (wrap_succ (by omega)) ih
theorem ma_loop (full : Bool) (n : Int) (all : List Int) (hU : Bytes all) (hb : n < 2 ^ 40) : ∀ (rest pre : List Int) (f : Int → Int), pre ++ rest = all → (∀ k, 0 ≤ f k ∧ f k ≤ (pre.length : Nat)) →
    (madeL f (rest.take (n - (pre.length : Nat)).toNat) = [] ∧ Ev C0 noO (.code 23 false (loopOf Try.prog 23 0) (mdHn (.sl 1 full (rowsU all)) n (pre.length : Nat) f)) (.code (.exit 0) mdOn)) ∨
    (madeL f (rest.take (n - (pre.length : Nat)).toNat) ≠ [] ∧ ∃ g', Ev C0 noO (.code 23 false (loopOf Try.prog 23 0) (mdHn (.sl 1 full (rowsU all)) n (pre.length : Nat) f)) (.code (.exit 0) (mdOut (evRows (madeL f (rest.take (n - (pre.length : Nat)).toNat))) g')))
  | [], pre, f, h, hf => .inl ⟨by simp [madeL], killMn (o := .cells (mdCells f) false) (mda_n full (rowsU all) n (pre.length : Nat) _ _ _ (all.length : Nat) (by simp [rowsU]) (dge (by subst h; simp)))⟩
  | u :: rest, pre, f, h, hf => by
    have hlt := pre_lt h
    have hrow := row_at (g := fun u : Int => [DV.v (.int .u8 u)]) h
    have hl : (((rowsU all).length : Nat) : Int) = (all.length : Nat) := by simp [rowsU]
    have hu : 0 ≤ u ∧ u < 256 := hU u (by rw [← h]; simp)
    by_cases hn : ((pre.length : Nat) : Int) < n
    case neg =>
      exact .inl ⟨by rw [take_zer hn]; rfl, killMn (o := .cells (mdCells f) false) (mda_yn full (rowsU all) n (pre.length : Nat) _ _ _ (all.length : Nat) hl (dlt hlt) (decide_eq_false hn))⟩
    have w1 : wr64 u = u := wrap_ok (by omega) (by omega)
    have hq3 : wr64 (Int.tdiv u 3) = u / 3 := by rw [Int.tdiv_eq_ediv_of_nonneg hu.1]; exact wrap_ok (by omega) (by omega)
    have hfk := hf (u % 3)
    have hq : wr64 (Int.tdiv (f (u % 3)) 2) = f (u % 3) / 2 := by rw [Int.tdiv_eq_ediv_of_nonneg hfk.1]; exact wrap_ok (by omega) (by omega)
    have ht : Int.tmod (f (u % 3)) 2 = f (u % 3) % 2 := Int.tmod_eq_emod_of_nonneg hfk.1
    have hs3 : wr64 (f (u % 3) + 1) = f (u % 3) + 1 := wrap_ok (by omega) (by omega)
    have ih := fun f out g hf ho => mb_loop full n all hU hb rest (pre ++ [u]) f out g (pre_snoc h) hf ho
    simp only [len_snoc] at ih
    refine .inr ⟨by rw [take_suc hn, madeL]; simp, ?_⟩
    rcases (by omega : u % 3 = 0 ∨ u % 3 = 1 ∨ u % 3 = 2) with hk | hk | hk
    · -- 0
      rw [hk] at hq ht hs3
      have hm : Int.tmod u 3 = 0 := by rw [Int.tmod_eq_emod_of_nonneg hu.1, hk]
      rw [take_suc hn, madeL, hk]
      by_cases hx : f 0 % 2 = 1
      · have he : mkE 0 (f 0) u = ⟨0, f 0 / 2, true, ⟨0, u / 3, 0, 0⟩⟩ := by unfold mkE; rw [if_pos hx]
        obtain ⟨g', ih⟩ := ih (upd f 0) ([(mkE 0 (f 0) u).row]) 1 (upd_ok hf _) (by simp)
        refine ⟨g', ?_⟩
        rw [he] at ih ⊢
        rw [show evRows (_ :: madeL (upd f 0) (rest.take (n - ((pre.length + 1 : Nat) : Int)).toNat)) = ([(⟨0, f 0 / 2, true, ⟨0, u / 3, 0, 0⟩⟩ : Evt).row]) ++ evRows (madeL (upd f 0) (rest.take (n - ((pre.length + 1 : Nat) : Int)).toNat)) by simp [evRows]]
        rw [mdHd, mdC0] at ih
        exact mda_yyt1yL full _ n _ _ _ _ _ u _ _ _ u _ _ _ _ _ _ hl (dlt hlt) (decide_eq_true hn) hrow w1 hm hq ht (by simp [hx]) hrow w1 hq3 hs3 (wrap_succ (by omega)) ih
      · have he : mkE 0 (f 0) u = ⟨0, f 0 / 2, false, ans0⟩ := by unfold mkE; rw [if_neg hx]
        obtain ⟨g', ih⟩ := ih (upd f 0) ([(mkE 0 (f 0) u).row]) 1 (upd_ok hf _) (by simp)
        refine ⟨g', ?_⟩
        rw [he] at ih ⊢
        rw [show evRows (_ :: madeL (upd f 0) (rest.take (n - ((pre.length + 1 : Nat) : Int)).toNat)) = ([(⟨0, f 0 / 2, false, ans0⟩ : Evt).row]) ++ evRows (madeL (upd f 0) (rest.take (n - ((pre.length + 1 : Nat) : Int)).toNat)) by simp [evRows]]
        rw [mdHd, mdC0] at ih
        exact mda_yyt1nL full _ n _ _ _ _ _ u _ _ _ _ _ _ _ hl (dlt hlt) (decide_eq_true hn) hrow w1 hm hq ht (by simp [hx]) hs3 (wrap_succ (by omega)) ih
    · -- 1
      rw [hk] at hq ht hs3
      have hm : Int.tmod u 3 = 1 := by rw [Int.tmod_eq_emod_of_nonneg hu.1, hk]
      rw [take_suc hn, madeL, hk]
      by_cases hx : f 1 % 2 = 1
      · have he : mkE 1 (f 1) u = ⟨1, f 1 / 2, true, ⟨0, u / 3, 0, 0⟩⟩ := by unfold mkE; rw [if_pos hx]
        obtain ⟨g', ih⟩ := ih (upd f 1) ([(mkE 1 (f 1) u).row]) 1 (upd_ok hf _) (by simp)
        refine ⟨g', ?_⟩
        rw [he] at ih ⊢
        rw [show evRows (_ :: madeL (upd f 1) (rest.take (n - ((pre.length + 1 : Nat) : Int)).toNat)) = ([(⟨1, f 1 / 2, true, ⟨0, u / 3, 0, 0⟩⟩ : Evt).row]) ++ evRows (madeL (upd f 1) (rest.take (n - ((pre.length + 1 : Nat) : Int)).toNat)) by simp [evRows]]
        rw [mdHd, mdC1] at ih
        exact mda_yyt2yL full _ n _ _ _ _ _ u _ _ _ u _ _ _ _ _ _ hl (dlt hlt) (decide_eq_true hn) hrow w1 hm hq ht (by simp [hx]) hrow w1 hq3 hs3 (wrap_succ (by omega)) ih
      · have he : mkE 1 (f 1) u = ⟨1, f 1 / 2, false, ans0⟩ := by unfold mkE; rw [if_neg hx]
        obtain ⟨g', ih⟩ := ih (upd f 1) ([(mkE 1 (f 1) u).row]) 1 (upd_ok hf _) (by simp)
        refine ⟨g', ?_⟩
        rw [he] at ih ⊢
        rw [show evRows (_ :: madeL (upd f 1) (rest.take (n - ((pre.length + 1 : Nat) : Int)).toNat)) = ([(⟨1, f 1 / 2, false, ans0⟩ : Evt).row]) ++ evRows (madeL (upd f 1) (rest.take (n - ((pre.length + 1 : Nat) : Int)).toNat)) by simp [evRows]]
        rw [mdHd, mdC1] at ih
        exact mda_yyt2nL full _ n _ _ _ _ _ u _ _ _ _ _ _ _ hl (dlt hlt) (decide_eq_true hn) hrow w1 hm hq ht (by simp [hx]) hs3 (wrap_succ (by omega)) ih
    · -- 2
      rw [hk] at hq ht hs3
      have hm : Int.tmod u 3 = 2 := by rw [Int.tmod_eq_emod_of_nonneg hu.1, hk]
      rw [take_suc hn, madeL, hk]
      by_cases hx : f 2 % 2 = 1
      · have he : mkE 2 (f 2) u = ⟨2, f 2 / 2, true, ⟨0, u / 3, 0, 0⟩⟩ := by unfold mkE; rw [if_pos hx]
        obtain ⟨g', ih⟩ := ih (upd f 2) ([(mkE 2 (f 2) u).row]) 1 (upd_ok hf _) (by simp)
        refine ⟨g', ?_⟩
        rw [he] at ih ⊢
        rw [show evRows (_ :: madeL (upd f 2) (rest.take (n - ((pre.length + 1 : Nat) : Int)).toNat)) = ([(⟨2, f 2 / 2, true, ⟨0, u / 3, 0, 0⟩⟩ : Evt).row]) ++ evRows (madeL (upd f 2) (rest.take (n - ((pre.length + 1 : Nat) : Int)).toNat)) by simp [evRows]]
        rw [mdHd, mdC2] at ih
        exact mda_yyt3yL full _ n _ _ _ _ _ u _ _ _ u _ _ _ _ _ _ hl (dlt hlt) (decide_eq_true hn) hrow w1 hm hq ht (by simp [hx]) hrow w1 hq3 hs3 (wrap_succ (by omega)) ih
      · have he : mkE 2 (f 2) u = ⟨2, f 2 / 2, false, ans0⟩ := by unfold mkE; rw [if_neg hx]
        obtain ⟨g', ih⟩ := ih (upd f 2) ([(mkE 2 (f 2) u).row]) 1 (upd_ok hf _) (by simp)
        refine ⟨g', ?_⟩
        rw [he] at ih ⊢
        rw [show evRows (_ :: madeL (upd f 2) (rest.take (n - ((pre.length + 1 : Nat) : Int)).toNat)) = ([(⟨2, f 2 / 2, false, ans0⟩ : Evt).row]) ++ evRows (madeL (upd f 2) (rest.take (n - ((pre.length + 1 : Nat) : Int)).toNat)) by simp [evRows]]
        rw [mdHd, mdC2] at ih
        exact mda_yyt3nL full _ n _ _ _ _ _ u _ _ _ _ _ _ _ hl (dlt hlt) (decide_eq_true hn) hrow w1 hm hq ht (by simp [hx]) hs3 (wrap_succ (by omega)) ih

def madeSpec : Spec
  | [p, .one (.v (.int .i64 n))] => match bytesOf p with
    | some l => if n < 2 ^ 40 then some [madePV 7 (evRows (madeI n l))] else none
    | none => none
  | _ => none
theorem made_sat : Sat C0 23 madeSpec := by
  refine sat_of_ev (O := noO) hP0 (fun _ _ h => h.elim) hm0 fun ps rs hs => ?_
  unfold madeSpec at hs
  split at hs
  · rename_i p n
    split at hs
    · rename_i l hl
      split at hs
      · rename_i hb
        simp only [Option.some.injEq] at hs
        subst hs
        obtain ⟨hU, hc⟩ := bytesOf_cases hl
        rcases hc with ⟨rfl, rfl⟩ | ⟨full, rfl⟩
        · exact ⟨_, _, _, mdN_ n (killMn (mdA_ n)), by simp [madeI, madeL]; rfl⟩
        · have e : (n - ((0 : Nat) : Int)).toNat = n.toNat := by simp
          have h := ma_loop full n l hU hb l [] (fun _ => 0) rfl (fun _ => by simp)
          simp only [List.length_nil, e] at h
          rcases h with ⟨h1, h2⟩ | ⟨h1, g', h2⟩
          · unfold madeI
            rw [h1]
            exact ⟨_, _, _, mdc_l1 full (rowsU l) n [] 0 h2, rfl⟩
          · have : madePV 7 (evRows (madeI n l)) = .one (.sl 7 false (evRows (madeI n l))) := by
              unfold madePV madeI
              rw [if_neg (by simpa [evRows] using h1)]
            rw [this]
            exact ⟨_, _, _, mdc_l2 full (rowsU l) n _ g' h2, rfl⟩
      · cases hs
    · cases hs
  · cases hs

end Go.Ev

namespace Go.Ev
open Go Go.RowKit Go.Proofs

def L7 : List (FuncId × Spec) := (23, madeSpec) :: L6
noncomputable def C7 : Ctx := { P := Try.prog, prim := primL L7 }
theorem hP7 : PrimOK C7 := primOK_cons hP6 rfl (by decide) (made_sat.ctx rfl rfl) rfl rfl rfl (by kernel_rfl)

end Go.Ev

namespace Go.Ev
open Go Go.RowKit Go.Proofs

theorem paa_yL (r : List (List DV)) (ro : List (List DV)) (k : Int) (m : Int) (i : Int) (i34 : Int) (i35 : Int) (i28 : Int) (x : X) (s : St) (h1 : decide (i < 3) = true) (h2 : ofSpec [PV.one (DV.sl 7 false r), PV.one (di i)] = some [PV.one (DV.sl 7 false ro)]) (h3 : ↑(List.length ro) = i34) (h4 : wr64 (m + i34) = i35) (h5 : rightSpec [PV.one (DV.sl 7 false ro)] = some [PV.one (db true)]) (h6 : wr64 (i + 1) = i28) (h7 : Ev C7 noO (Task.code 9 false (loopOf Try.prog 9 0) { σ := slots 69 [(5, vb true), (6, AV.d (DV.sl 7 false r)), (7, vi k), (8, vi i35), (9, vi i28)], h := { } }) (Res.code x s)) :
    Ev C7 noO (Task.code 9 false (loopOf Try.prog 9 0) { σ := slots 69 [(5, vb true), (6, AV.d (DV.sl 7 false r)), (7, vi k), (8, vi m), (9, vi i)], h := { } }) (.code (x) s) :=
  sym_ev 60 _ [(site 9 26, Dec.b true), (site 9 31, Dec.prim [PV.one (DV.sl 7 false ro)]), (site 9 34, Dec.int i34), (site 9 35, Dec.int i35), (site 9 37, Dec.prim [pbool true]), (site 9 28, Dec.int i28), (site 9 8001, Dec.loop [5, 6, 7, 8, 9] x s)] _ [] _ (by kernel_rfl) (AllP_cons h1 (AllP_cons h2 (AllP_cons h3 (AllP_cons h4 (AllP_cons h5 (AllP_cons h6 (AllP_cons h7 AllP_nil)))))))
theorem paa_n (r : List (List DV)) (ro : List (List DV)) (k : Int) (m : Int) (i : Int) (h1 : decide (i < 3) = false) :
    Ev C7 noO (Task.code 9 false (loopOf Try.prog 9 0) { σ := slots 69 [(5, vb true), (6, AV.d (DV.sl 7 false r)), (7, vi k), (8, vi m), (9, vi i)], h := { } }) (.code (X.exit 0) { σ := slots 69 [(5, vb true), (6, AV.d (DV.sl 7 false r)), (7, vi k), (8, vi m)], h := { } }) :=
  symM_ev (n := 60) (sc := [(site 9 26, Dec.b false)]) (keep := [5, 6, 7, 8]) (sc' := []) (by kernel_rfl) (AllP_cons h1 AllP_nil)
theorem pan_yL (m : Int) (i : Int) (i35 : Int) (i28 : Int) (x : X) (s : St) (h1 : decide (i < 3) = true) (h2 : wr64 (m + ↑0) = i35) (h3 : wr64 (i + 1) = i28) (h4 : Ev C7 noO (Task.code 9 false (loopOf Try.prog 9 0) { σ := slots 69 [(5, vb true), (6, AV.d (DV.v (Value.slice none 0 0))), (7, vi 0), (8, vi i35), (9, vi i28)], h := { } }) (Res.code x s)) :
    Ev C7 noO (Task.code 9 false (loopOf Try.prog 9 0) { σ := slots 69 [(5, vb true), (6, AV.d (DV.v (Value.slice none 0 0))), (7, vi 0), (8, vi m), (9, vi i)], h := { } }) (.code (x) s) :=
  sym_ev 60 _ [(site 9 26, Dec.b true), (site 9 35, Dec.int i35), (site 9 28, Dec.int i28), (site 9 8001, Dec.loop [5, 6, 7, 8, 9] x s)] _ [] _ (by kernel_rfl) (AllP_cons h1 (AllP_cons h2 (AllP_cons h3 (AllP_cons h4 AllP_nil))))
theorem pan_n (m : Int) (i : Int) (h1 : decide (i < 3) = false) :
    Ev C7 noO (Task.code 9 false (loopOf Try.prog 9 0) { σ := slots 69 [(5, vb true), (6, AV.d (DV.v (Value.slice none 0 0))), (7, vi 0), (8, vi m), (9, vi i)], h := { } }) (.code (X.exit 0) { σ := slots 69 [(5, vb true), (6, AV.d (DV.v (Value.slice none 0 0))), (7, vi 0), (8, vi m)], h := { } }) :=
  symM_ev (n := 60) (sc := [(site 9 26, Dec.b false)]) (keep := [5, 6, 7, 8]) (sc' := []) (by kernel_rfl) (AllP_cons h1 AllP_nil)
theorem pac_t1t1 (fu : Bool) (ru : List (List DV)) (u : Int) (r : List (List DV)) (n : Nat) (c : Nat) (z : Nat) (k : Int) (m : Int) (fc : Bool) (rc : List (List DV)) (r1 : List (List DV)) (r2 : List (List DV)) (i17 : Int) (i49 : Int) (h1 : madeSpec [PV.one (DV.sl 1 fu ru), PV.one (di 60)] = some [PV.one (DV.sl 7 false r)]) (h2 : ↑(List.length r) = i17) (h3 : decide (i17 > 0) = true) (h4 : wr64 (↑(List.length r) + 1) = Int.ofNat (n + 1)) (h5 : Int.tmod (wr64 u) (Int.ofNat (n + 1)) = k) (h6 : Ev C7 noO (Task.code 9 false (loopOf Try.prog 9 0) { σ := slots 69 [(5, vb true), (6, AV.d (DV.sl 7 false r)), (7, vi k), (8, vi 0), (9, vi 0)], h := { } }) (Res.code (X.exit 0) { σ := slots 69 [(5, vb true), (6, AV.d (DV.sl 7 false r)), (7, vi k), (8, vi m)], h := { } })) (h7 : cutGoal 7 (AV.d (DV.sl 7 false r)) none (some k) none 0 c z (AV.d (DV.sl 7 fc rc))) (h8 : rightSpec [PV.one (DV.sl 7 fc rc)] = some [PV.one (db true)]) (h9 : ↑(List.length r) = i49) (h10 : (m == i49) = true) (h11 : ofSpec [PV.one (DV.sl 7 false r), PV.one (di 3)] = some [PV.one (DV.sl 7 false [])]) (h12 : cutGoal 7 (AV.d (DV.sl 7 false r)) none (some k) none 0 c z (AV.d (DV.sl 7 fc rc))) (h13 : spansSpecP [PV.one (DV.sl 7 fc rc)] = some [PV.one (DV.v (Value.slice none 0 0))]) (h14 : spansSpecP [PV.one (DV.sl 7 false r)] = some [PV.one (DV.v (Value.slice none 0 0))]) :
    Ev C7 noO (Task.call 9 [AV.d (DV.sl 1 fu ru), AV.d (DV.v (Value.int IntKind.u8 u))] { }) (.val (vb true) { }) :=
  sym_ev 80 _ [(site 9 15, Dec.prim [PV.one (DV.sl 7 false r)]), (site 9 17, Dec.int i17), (site 9 18, Dec.b true), (site 9 23, Dec.int (Int.ofNat (n + 1))), (site 9 24, Dec.int k), (site 9 8001, Dec.loop [5, 6, 7, 8, 9] (X.exit 0) { σ := slots 69 [(5, vb true), (6, AV.d (DV.sl 7 false r)), (7, vi k), (8, vi m)], h := { } }), (site 9 43, Dec.cut 0 c z (AV.d (DV.sl 7 fc rc))), (site 9 44, Dec.prim [pbool true]), (site 9 49, Dec.int i49), (site 9 50, Dec.b true), (site 9 54, Dec.prim [PV.one (DV.sl 7 false [])]), (site 9 61, Dec.cut 0 c z (AV.d (DV.sl 7 fc rc))), (site 9 62, Dec.prim [nilPV]), (site 9 65, Dec.prim [nilPV])] _ [] _ (by kernel_rfl) (AllP_cons h1 (AllP_cons h2 (AllP_cons h3 (AllP_cons h4 (AllP_cons h5 (AllP_cons h6 (AllP_cons h7 (AllP_cons h8 (AllP_cons h9 (AllP_cons h10 (AllP_cons h11 (AllP_cons h12 (AllP_cons h13 (AllP_cons h14 AllP_nil))))))))))))))
theorem pac_t1t2 (fu : Bool) (ru : List (List DV)) (u : Int) (r : List (List DV)) (n : Nat) (c : Nat) (z : Nat) (k : Int) (m : Int) (fc : Bool) (rc : List (List DV)) (r1 : List (List DV)) (r2 : List (List DV)) (i17 : Int) (i49 : Int) (i66 : Int) (h1 : madeSpec [PV.one (DV.sl 1 fu ru), PV.one (di 60)] = some [PV.one (DV.sl 7 false r)]) (h2 : ↑(List.length r) = i17) (h3 : decide (i17 > 0) = true) (h4 : wr64 (↑(List.length r) + 1) = Int.ofNat (n + 1)) (h5 : Int.tmod (wr64 u) (Int.ofNat (n + 1)) = k) (h6 : Ev C7 noO (Task.code 9 false (loopOf Try.prog 9 0) { σ := slots 69 [(5, vb true), (6, AV.d (DV.sl 7 false r)), (7, vi k), (8, vi 0), (9, vi 0)], h := { } }) (Res.code (X.exit 0) { σ := slots 69 [(5, vb true), (6, AV.d (DV.sl 7 false r)), (7, vi k), (8, vi m)], h := { } })) (h7 : cutGoal 7 (AV.d (DV.sl 7 false r)) none (some k) none 0 c z (AV.d (DV.sl 7 fc rc))) (h8 : rightSpec [PV.one (DV.sl 7 fc rc)] = some [PV.one (db true)]) (h9 : ↑(List.length r) = i49) (h10 : (m == i49) = true) (h11 : ofSpec [PV.one (DV.sl 7 false r), PV.one (di 3)] = some [PV.one (DV.sl 7 false [])]) (h12 : cutGoal 7 (AV.d (DV.sl 7 false r)) none (some k) none 0 c z (AV.d (DV.sl 7 fc rc))) (h13 : spansSpecP [PV.one (DV.sl 7 fc rc)] = some [PV.one (DV.v (Value.slice none 0 0))]) (h14 : spansSpecP [PV.one (DV.sl 7 false r)] = some [PV.one (DV.sl 4 false r2)]) (h15 : ↑(List.length r2) = i66) (h16 : decide (↑0 ≤ i66) = true) :
    Ev C7 noO (Task.call 9 [AV.d (DV.sl 1 fu ru), AV.d (DV.v (Value.int IntKind.u8 u))] { }) (.val (vb true) { }) :=
  sym_ev 80 _ [(site 9 15, Dec.prim [PV.one (DV.sl 7 false r)]), (site 9 17, Dec.int i17), (site 9 18, Dec.b true), (site 9 23, Dec.int (Int.ofNat (n + 1))), (site 9 24, Dec.int k), (site 9 8001, Dec.loop [5, 6, 7, 8, 9] (X.exit 0) { σ := slots 69 [(5, vb true), (6, AV.d (DV.sl 7 false r)), (7, vi k), (8, vi m)], h := { } }), (site 9 43, Dec.cut 0 c z (AV.d (DV.sl 7 fc rc))), (site 9 44, Dec.prim [pbool true]), (site 9 49, Dec.int i49), (site 9 50, Dec.b true), (site 9 54, Dec.prim [PV.one (DV.sl 7 false [])]), (site 9 61, Dec.cut 0 c z (AV.d (DV.sl 7 fc rc))), (site 9 62, Dec.prim [nilPV]), (site 9 65, Dec.prim [PV.one (DV.sl 4 false r2)]), (site 9 66, Dec.int i66), (site 9 67, Dec.b true)] _ [] _ (by kernel_rfl) (AllP_cons h1 (AllP_cons h2 (AllP_cons h3 (AllP_cons h4 (AllP_cons h5 (AllP_cons h6 (AllP_cons h7 (AllP_cons h8 (AllP_cons h9 (AllP_cons h10 (AllP_cons h11 (AllP_cons h12 (AllP_cons h13 (AllP_cons h14 (AllP_cons h15 (AllP_cons h16 AllP_nil))))))))))))))))
theorem pac_t2t1 (fu : Bool) (ru : List (List DV)) (u : Int) (r : List (List DV)) (n : Nat) (c : Nat) (z : Nat) (k : Int) (m : Int) (fc : Bool) (rc : List (List DV)) (r1 : List (List DV)) (r2 : List (List DV)) (i17 : Int) (i49 : Int) (i63 : Int) (h1 : madeSpec [PV.one (DV.sl 1 fu ru), PV.one (di 60)] = some [PV.one (DV.sl 7 false r)]) (h2 : ↑(List.length r) = i17) (h3 : decide (i17 > 0) = true) (h4 : wr64 (↑(List.length r) + 1) = Int.ofNat (n + 1)) (h5 : Int.tmod (wr64 u) (Int.ofNat (n + 1)) = k) (h6 : Ev C7 noO (Task.code 9 false (loopOf Try.prog 9 0) { σ := slots 69 [(5, vb true), (6, AV.d (DV.sl 7 false r)), (7, vi k), (8, vi 0), (9, vi 0)], h := { } }) (Res.code (X.exit 0) { σ := slots 69 [(5, vb true), (6, AV.d (DV.sl 7 false r)), (7, vi k), (8, vi m)], h := { } })) (h7 : cutGoal 7 (AV.d (DV.sl 7 false r)) none (some k) none 0 c z (AV.d (DV.sl 7 fc rc))) (h8 : rightSpec [PV.one (DV.sl 7 fc rc)] = some [PV.one (db true)]) (h9 : ↑(List.length r) = i49) (h10 : (m == i49) = true) (h11 : ofSpec [PV.one (DV.sl 7 false r), PV.one (di 3)] = some [PV.one (DV.sl 7 false [])]) (h12 : cutGoal 7 (AV.d (DV.sl 7 false r)) none (some k) none 0 c z (AV.d (DV.sl 7 fc rc))) (h13 : spansSpecP [PV.one (DV.sl 7 fc rc)] = some [PV.one (DV.sl 4 false r1)]) (h14 : ↑(List.length r1) = i63) (h15 : spansSpecP [PV.one (DV.sl 7 false r)] = some [PV.one (DV.v (Value.slice none 0 0))]) (h16 : decide (i63 ≤ ↑0) = true) :
    Ev C7 noO (Task.call 9 [AV.d (DV.sl 1 fu ru), AV.d (DV.v (Value.int IntKind.u8 u))] { }) (.val (vb true) { }) :=
  sym_ev 80 _ [(site 9 15, Dec.prim [PV.one (DV.sl 7 false r)]), (site 9 17, Dec.int i17), (site 9 18, Dec.b true), (site 9 23, Dec.int (Int.ofNat (n + 1))), (site 9 24, Dec.int k), (site 9 8001, Dec.loop [5, 6, 7, 8, 9] (X.exit 0) { σ := slots 69 [(5, vb true), (6, AV.d (DV.sl 7 false r)), (7, vi k), (8, vi m)], h := { } }), (site 9 43, Dec.cut 0 c z (AV.d (DV.sl 7 fc rc))), (site 9 44, Dec.prim [pbool true]), (site 9 49, Dec.int i49), (site 9 50, Dec.b true), (site 9 54, Dec.prim [PV.one (DV.sl 7 false [])]), (site 9 61, Dec.cut 0 c z (AV.d (DV.sl 7 fc rc))), (site 9 62, Dec.prim [PV.one (DV.sl 4 false r1)]), (site 9 63, Dec.int i63), (site 9 65, Dec.prim [nilPV]), (site 9 67, Dec.b true)] _ [] _ (by kernel_rfl) (AllP_cons h1 (AllP_cons h2 (AllP_cons h3 (AllP_cons h4 (AllP_cons h5 (AllP_cons h6 (AllP_cons h7 (AllP_cons h8 (AllP_cons h9 (AllP_cons h10 (AllP_cons h11 (AllP_cons h12 (AllP_cons h13 (AllP_cons h14 (AllP_cons h15 (AllP_cons h16 AllP_nil))))))))))))))))
theorem pac_t2t2 (fu : Bool) (ru : List (List DV)) (u : Int) (r : List (List DV)) (n : Nat) (c : Nat) (z : Nat) (k : Int) (m : Int) (fc : Bool) (rc : List (List DV)) (r1 : List (List DV)) (r2 : List (List DV)) (i17 : Int) (i49 : Int) (i63 : Int) (i66 : Int) (h1 : madeSpec [PV.one (DV.sl 1 fu ru), PV.one (di 60)] = some [PV.one (DV.sl 7 false r)]) (h2 : ↑(List.length r) = i17) (h3 : decide (i17 > 0) = true) (h4 : wr64 (↑(List.length r) + 1) = Int.ofNat (n + 1)) (h5 : Int.tmod (wr64 u) (Int.ofNat (n + 1)) = k) (h6 : Ev C7 noO (Task.code 9 false (loopOf Try.prog 9 0) { σ := slots 69 [(5, vb true), (6, AV.d (DV.sl 7 false r)), (7, vi k), (8, vi 0), (9, vi 0)], h := { } }) (Res.code (X.exit 0) { σ := slots 69 [(5, vb true), (6, AV.d (DV.sl 7 false r)), (7, vi k), (8, vi m)], h := { } })) (h7 : cutGoal 7 (AV.d (DV.sl 7 false r)) none (some k) none 0 c z (AV.d (DV.sl 7 fc rc))) (h8 : rightSpec [PV.one (DV.sl 7 fc rc)] = some [PV.one (db true)]) (h9 : ↑(List.length r) = i49) (h10 : (m == i49) = true) (h11 : ofSpec [PV.one (DV.sl 7 false r), PV.one (di 3)] = some [PV.one (DV.sl 7 false [])]) (h12 : cutGoal 7 (AV.d (DV.sl 7 false r)) none (some k) none 0 c z (AV.d (DV.sl 7 fc rc))) (h13 : spansSpecP [PV.one (DV.sl 7 fc rc)] = some [PV.one (DV.sl 4 false r1)]) (h14 : ↑(List.length r1) = i63) (h15 : spansSpecP [PV.one (DV.sl 7 false r)] = some [PV.one (DV.sl 4 false r2)]) (h16 : ↑(List.length r2) = i66) (h17 : decide (i63 ≤ i66) = true) :
    Ev C7 noO (Task.call 9 [AV.d (DV.sl 1 fu ru), AV.d (DV.v (Value.int IntKind.u8 u))] { }) (.val (vb true) { }) :=
  sym_ev 80 _ [(site 9 15, Dec.prim [PV.one (DV.sl 7 false r)]), (site 9 17, Dec.int i17), (site 9 18, Dec.b true), (site 9 23, Dec.int (Int.ofNat (n + 1))), (site 9 24, Dec.int k), (site 9 8001, Dec.loop [5, 6, 7, 8, 9] (X.exit 0) { σ := slots 69 [(5, vb true), (6, AV.d (DV.sl 7 false r)), (7, vi k), (8, vi m)], h := { } }), (site 9 43, Dec.cut 0 c z (AV.d (DV.sl 7 fc rc))), (site 9 44, Dec.prim [pbool true]), (site 9 49, Dec.int i49), (site 9 50, Dec.b true), (site 9 54, Dec.prim [PV.one (DV.sl 7 false [])]), (site 9 61, Dec.cut 0 c z (AV.d (DV.sl 7 fc rc))), (site 9 62, Dec.prim [PV.one (DV.sl 4 false r1)]), (site 9 63, Dec.int i63), (site 9 65, Dec.prim [PV.one (DV.sl 4 false r2)]), (site 9 66, Dec.int i66), (site 9 67, Dec.b true)] _ [] _ (by kernel_rfl) (AllP_cons h1 (AllP_cons h2 (AllP_cons h3 (AllP_cons h4 (AllP_cons h5 (AllP_cons h6 (AllP_cons h7 (AllP_cons h8 (AllP_cons h9 (AllP_cons h10 (AllP_cons h11 (AllP_cons h12 (AllP_cons h13 (AllP_cons h14 (AllP_cons h15 (AllP_cons h16 (AllP_cons h17 AllP_nil)))))))))))))))))
theorem pae_ (fu : Bool) (ru : List (List DV)) (u : Int) (h1 : madeSpec [PV.one (DV.sl 1 fu ru), PV.one (di 60)] = some [PV.one (DV.v (Value.slice none 0 0))]) (h2 : Ev C7 noO (Task.code 9 false (loopOf Try.prog 9 0) { σ := slots 69 [(5, vb true), (6, AV.d (DV.v (Value.slice none 0 0))), (7, vi 0), (8, vi 0), (9, vi 0)], h := { } }) (Res.code (X.exit 0) { σ := slots 69 [(5, vb true), (6, AV.d (DV.v (Value.slice none 0 0))), (7, vi 0), (8, vi 0)], h := { } })) :
    Ev C7 noO (Task.call 9 [AV.d (DV.sl 1 fu ru), AV.d (DV.v (Value.int IntKind.u8 u))] { }) (.val (vb true) { }) :=
  sym_ev 80 _ [(site 9 15, Dec.prim [nilPV]), (site 9 8001, Dec.loop [5, 6, 7, 8, 9] (X.exit 0) { σ := slots 69 [(5, vb true), (6, AV.d (DV.v (Value.slice none 0 0))), (7, vi 0), (8, vi 0)], h := { } })] _ [] _ (by kernel_rfl) (AllP_cons h1 (AllP_cons h2 AllP_nil))
theorem paN_ (u : Int) (h1 : Ev C7 noO (Task.code 9 false (loopOf Try.prog 9 0) { σ := slots 69 [(5, vb true), (6, AV.d (DV.v (Value.slice none 0 0))), (7, vi 0), (8, vi 0), (9, vi 0)], h := { } }) (Res.code (X.exit 0) { σ := slots 69 [(5, vb true), (6, AV.d (DV.v (Value.slice none 0 0))), (7, vi 0), (8, vi 0)], h := { } })) :
    Ev C7 noO (Task.call 9 [AV.d (DV.v (Value.slice none 0 0)), AV.d (DV.v (Value.int IntKind.u8 u))] { }) (.val (vb true) { }) :=
  sym_ev 80 _ [(site 9 8001, Dec.loop [5, 6, 7, 8, 9] (X.exit 0) { σ := slots 69 [(5, vb true), (6, AV.d (DV.v (Value.slice none 0 0))), (7, vi 0), (8, vi 0)], h := { } })] _ [] _ (by kernel_rfl) (AllP_cons h1 AllP_nil)

end Go.Ev

namespace Go.Ev
open Go

theorem mkE_th (k x u : Int) : (mkE k x u).th = k := by unfold mkE; split <;> rfl
theorem mkE_ca (k x u : Int) : (mkE k x u).ca = x / 2 := by unfold mkE; split <;> rfl
theorem mkE_re (k x u : Int) : (mkE k x u).re = decide (x % 2 = 1) := by
  unfold mkE
  split
  · rename_i h; simp [h]
  · rename_i h; simp [h]
theorem mkE_an (k x u : Int) : (mkE k x u).re = true ∨ (mkE k x u).an = ans0 := by
  unfold mkE
  split
  · exact .inl rfl
  · exact .inr rfl
theorem made_len : ∀ (l : List Int) (f : Int → Int), (madeL f l).length = l.length
  | [], f => rfl
  | u :: l, f => by simp [madeL, made_len l]
theorem made_take : ∀ (l : List Int) (k : Nat) (f : Int → Int), (madeL f l).take k = madeL f (l.take k)
  | [], k, f => by simp [madeL]
  | u :: l, 0, f => by simp [madeL]
  | u :: l, k + 1, f => by simp [madeL, made_take l k]
theorem made_th : ∀ (l : List Int) (f : Int → Int), ∀ e ∈ madeL f l, 0 ≤ e.th ∧ e.th < 3
  | [], f => by simp [madeL]
  | u :: l, f => by
    intro e he
    rw [madeL] at he
    rcases List.mem_cons.1 he with rfl | he
    · rw [mkE_th]; omega
    · exact made_th l _ e he
theorem rrStep_mk {fr : List Int} {f : Int → Int} {k : Int} (u : Int) (h0 : 0 ≤ k) (h1 : k < 3) (h : fr[k.toNat]? = some (f k)) : rrStep fr (mkE k (f k) u) = some (fr.set k.toNat (f k + 1)) := by
  unfold rrStep
  rw [mkE_th, if_neg (by omega), h]
  simp only
  rw [if_pos ⟨mkE_ca _ _ _, mkE_re _ _ _, mkE_an _ _ _⟩]
theorem made_rr (p : Int → Bool) : ∀ (l : List Int) (f : Int → Int) (fr : List Int), fr.length = 64 → (∀ k : Int, 0 ≤ k → k < 3 → p k = true → fr[k.toNat]? = some (f k)) → rrL fr ((madeL f l).filter fun e => p e.th) = true
  | [], f, fr, hl, h => by simp [madeL, rrL]
  | u :: l, f, fr, hl, h => by
    rw [madeL, List.filter_cons, mkE_th]
    have h0 : 0 ≤ u % 3 := by omega
    have h1 : u % 3 < 3 := by omega
    cases hp : p (u % 3) with
    | true =>
      rw [if_pos rfl, rrL, rrStep_mk u h0 h1 (h _ h0 h1 hp)]
      refine made_rr p l _ _ (by simpa using hl) fun k k0 k1 kp => ?_
      by_cases hk : k = u % 3
      · subst hk
        rw [List.getElem?_set_self (by omega)]
        simp [upd]
      · rw [List.getElem?_set_ne (by omega), h k k0 k1 kp]
        simp [upd, hk]
    | false =>
      rw [if_neg (by simp)]
      refine made_rr p l _ _ hl fun k k0 k1 kp => ?_
      have hk : k ≠ u % 3 := fun e => by rw [e, hp] at kp; cases kp
      rw [h k k0 k1 kp]
      simp [upd, hk]
theorem far0_at (k : Int) (h0 : 0 ≤ k) (h1 : k < 3) : far0[k.toNat]? = some 0 := by
  unfold far0
  rw [List.getElem?_replicate, if_pos (by omega)]
theorem made_right_p (p : Int → Bool) (l : List Int) (hl : l.length ≤ 2000) : rightB ((madeL (fun _ => 0) l).filter fun e => p e.th) = true := by
  rw [right_eq, refRightB, if_neg, made_rr p l _ far0 (by simp [far0]) fun k k0 k1 _ => far0_at k k0 k1]
  have := List.length_filter_le (fun e : Evt => p e.th) (madeL (fun _ => 0) l)
  rw [made_len] at this
  omega
theorem made_right (l : List Int) (hl : l.length ≤ 2000) : rightB (madeL (fun _ => 0) l) = true := by
  have := made_right_p (fun _ => true) l hl
  rwa [List.filter_eq_self.2 (by simp)] at this
theorem made_right_of (k : Int) (l : List Int) (hl : l.length ≤ 2000) : rightB (ofL k (madeL (fun _ => 0) l)) = true := made_right_p (fun j => j == k) l hl
theorem of_sum : ∀ l : List Evt, (∀ e ∈ l, 0 ≤ e.th ∧ e.th < 3) → (ofL 0 l).length + (ofL 1 l).length + (ofL 2 l).length = l.length
  | [], _ => rfl
  | e :: l, h => by
    have ih := of_sum l fun e he => h e (by simp [he])
    have := h e (by simp)
    unfold ofL at ih ⊢
    simp only [List.filter_cons]
    rcases (by omega : e.th = 0 ∨ e.th = 1 ∨ e.th = 2) with hk | hk | hk <;> rw [hk] <;> simp <;> omega
theorem of_none {l : List Evt} (h : ∀ e ∈ l, 0 ≤ e.th ∧ e.th < 3) : ofL 3 l = [] := by
  unfold ofL
  rw [List.filter_eq_nil_iff]
  intro e he
  have := h e he
  simp
  omega
theorem spansL_cnt (m : MapE) : ∀ (l : List Evt) (i : Nat), (spansL m i l).length = (l.filter fun e => !e.re).length
  | [], i => rfl
  | e :: l, i => by
    unfold spansL
    have := spansL_cnt m l (i + 1)
    cases hr : e.re <;> simp [hr, this]
theorem spans_take {l : List Evt} (k : Nat) (h : rightB l = true) : (spansI (l.take k)).length ≤ (spansI l).length := by
  unfold spansI
  rw [h]
  simp only [if_true]
  rw [spansL_cnt]
  have h2 : ((l.take k).filter fun e => !e.re).length ≤ (l.filter fun e => !e.re).length := ((List.take_sublist k l).filter _).length_le
  split
  · rw [spansL_cnt]; exact h2
  · simp

end Go.Ev

namespace Go.Ev
open Go Go.RowKit Go.Proofs

def byteOf : PV → Option Int
  | .one (.v (.int .u8 u)) => if 0 ≤ u ∧ u < 256 then some u else none
  | _ => none
theorem byteOf_eq {p : PV} {u : Int} (h : byteOf p = some u) : p = .one (.v (.int .u8 u)) ∧ 0 ≤ u ∧ u < 256 := by
  unfold byteOf at h
  split at h
  · split at h
    · rename_i hu
      simp only [Option.some.injEq] at h
      subst h
      exact ⟨rfl, hu⟩
    · cases h
  · cases h
theorem bytesOf_sl {f : Bool} {l : List Int} (h : Bytes l) : bytesOf (.one (.sl 1 f (rowsU l))) = some l := by
  have : ∀ l : List Int, Bytes l → allSome byteI (rowsU l) = some l := by
    intro l
    induction l with
    | nil => intro _; rfl
    | cons u l ih =>
      intro h
      have h1 := h u (by simp)
      have h2 := ih fun v hv => h v (by simp [hv])
      unfold rowsU at h2 ⊢
      simp only [List.map_cons, allSome, h2, byteI, if_pos h1]
  simp [bytesOf, sliceOf, this l h]
theorem made_at {f : Bool} {l : List Int} (n : Int) (h : Bytes l) (hb : n < 2 ^ 40) : madeSpec [.one (.sl 1 f (rowsU l)), .one (di n)] = some [madePV 7 (evRows (madeI n l))] := by
  simp only [madeSpec, di, bytesOf_sl h, hb, if_true]
theorem of_at {f : Bool} {l : List Evt} (k : Int) (hb : l.length < 2 ^ 40) (hn : l ≠ []) : ofSpec [.one (.sl 7 f (evRows l)), .one (di k)] = some [.one (.sl 7 false (evRows (ofL k l)))] := by
  have e7 : allSome evtI (evRows l) = some l := allSome_map evtI_row l
  have : l.isEmpty = false := by cases l <;> simp_all
  simp only [ofSpec, di, e7, hb, if_true, this]; rfl
theorem pspans_at {f : Bool} {l : List Evt} (hb : l.length < 2 ^ 40) : spansSpecP [.one (.sl 7 f (evRows l))] = some [madePV 4 (rowsS (spansI l))] := by simp only [spansSpecP, evtsOf_sl, hb, if_true]

def partsSpec : Spec
  | [p, q] => match bytesOf p, byteOf q with
    | some l, some u => some [pbool true]
    | _, _ => none
  | _ => none
theorem parts_nil (m : Int) : Ev C7 noO (.code 9 false (loopOf Try.prog 9 0) { σ := slots 69 [(5, vb true), (6, .d (.v (.slice none 0 0))), (7, vi 0), (8, vi 0), (9, vi 0)], h := {} }) (.code (.exit 0) { σ := slots 69 [(5, vb true), (6, .d (.v (.slice none 0 0))), (7, vi 0), (8, vi 0)], h := {} }) :=
  pan_yL 0 0 0 1 _ _ rfl rfl rfl (pan_yL 0 1 0 2 _ _ rfl rfl rfl (pan_yL 0 2 0 3 _ _ rfl rfl rfl (pan_n 0 3 rfl)))
theorem parts_sat : Sat C7 9 partsSpec := by
  refine sat_of_ev (O := noO) hP7 (fun _ _ h => h.elim) hm0 fun ps rs hs => ?_
  unfold partsSpec at hs
  split at hs
  · split at hs
    · rename_i p q _ _ l u hl hq
      ·
        simp only [Option.some.injEq] at hs
        subst hs
        obtain ⟨rfl, hu0, hu1⟩ := byteOf_eq hq
        obtain ⟨hU, hc⟩ := bytesOf_cases hl
        rcases hc with ⟨rfl, rfl⟩ | ⟨f, rfl⟩
        · exact ⟨_, _, _, paN_ u (parts_nil 0), rfl⟩
        · have hmd := made_at (f := f) 60 hU (by decide)
          have hM : madeI 60 l = madeL (fun _ => 0) (l.take 60) := rfl
          generalize hL : l.take 60 = w at hM
          have hw : w.length ≤ 60 := by rw [← hL]; simp; omega
          by_cases hn : madeI 60 l = []
          · rw [hn] at hmd
            exact ⟨_, _, _, pae_ f _ u hmd (parts_nil 0), rfl⟩
          · have e1 : madePV 7 (evRows (madeI 60 l)) = .one (.sl 7 false (evRows (madeI 60 l))) := by
              unfold madePV
              rw [if_neg (by simpa [evRows] using hn)]
            rw [e1] at hmd
            generalize hE : madeI 60 l = E at hmd hn hM
            have hEl : E.length = w.length := by rw [hM, made_len]
            have hth : ∀ e ∈ E, 0 ≤ e.th ∧ e.th < 3 := by rw [hM]; exact made_th w _
            have hlen : (((evRows E).length : Nat) : Int) = (E.length : Nat) := by simp [evRows]
            have hEp : 0 < E.length := List.length_pos_iff.2 hn
            have hEb : E.length < 2 ^ 40 := by omega
            have hEr : rightB E = true := by rw [hM]; exact made_right w (by omega)
            have hO : ∀ k, rightSpec [.one (.sl 7 false (evRows (ofL k E)))] = some [.one (db true)] := fun k => right_at (by have := List.length_filter_le (fun e : Evt => e.th == k) E; unfold ofL; omega) (by rw [hM]; exact made_right_of k w (by omega))
            have hOl : ∀ k, (((evRows (ofL k E)).length : Nat) : Int) = ((ofL k E).length : Nat) := fun k => by simp [evRows]
            have hOb : ∀ k, (ofL k E).length ≤ E.length := fun k => List.length_filter_le _ _
            have b0 := hOb 0
            have b1 := hOb 1
            have b2 := hOb 2
            have hsum := of_sum E hth
            have hk : Int.tmod (wr64 u) (Int.ofNat (E.length + 1)) = ((u.toNat % (E.length + 1) : Nat) : Int) := by
              have : wr64 u = u := wrap_ok (by omega) (by omega)
              rw [this, Int.tmod_eq_emod_of_nonneg hu0]
              have : u = (u.toNat : Int) := by omega
              rw [this]
              simp
            generalize hkk : u.toNat % (E.length + 1) = k at hk
            have hkE : k ≤ E.length := by have := Nat.mod_lt u.toNat (show 0 < E.length + 1 by omega); omega
            have hrow : ((evRows E).drop 0).take (k - 0) = evRows (E.take k) := by simp [evRows]
            have hcut : cutGoal 7 (.d (.sl 7 false (evRows E))) none (some ((k : Nat) : Int)) none 0 k (evRows E).length (.d (.sl 7 false (evRows (E.take k)))) :=
              ⟨rfl, rfl, rfl, rfl, Nat.zero_le _, by simp [evRows]; omega, Nat.le_refl _, by rw [hrow]; simp⟩
            have hkr : rightB (E.take k) = true := by rw [hM, made_take]; exact made_right _ (by simp; omega)
            have hkl : (E.take k).length < 2 ^ 40 := by simp; omega
            have hloop : Ev C7 noO (.code 9 false (loopOf Try.prog 9 0) { σ := slots 69 [(5, vb true), (6, .d (.sl 7 false (evRows E))), (7, vi ((k : Nat) : Int)), (8, vi 0), (9, vi 0)], h := {} }) (.code (.exit 0) { σ := slots 69 [(5, vb true), (6, .d (.sl 7 false (evRows E))), (7, vi ((k : Nat) : Int)), (8, vi ((E.length : Nat) : Int))], h := {} }) :=
              paa_yL _ _ _ 0 0 _ ((ofL 0 E).length : Nat) 1 _ _ rfl (of_at 0 hEb hn) (hOl 0) (by rw [Int.zero_add]; exact wrap_ok (by omega) (by omega)) (hO 0) rfl
                (paa_yL _ _ _ _ 1 _ ((ofL 0 E).length + (ofL 1 E).length : Nat) 2 _ _ rfl (of_at 1 hEb hn) (hOl 1) (by rw [← Int.natCast_add]; exact wrap_ok (by omega) (by omega)) (hO 1) rfl
                (paa_yL _ _ _ _ 2 _ (E.length : Nat) 3 _ _ rfl (of_at 2 hEb hn) (hOl 2) (by rw [← Int.natCast_add, hsum]; exact wrap_ok (by omega) (by omega)) (hO 2) rfl
                (paa_n _ [] _ _ 3 rfl)))
            have h4 : wr64 (((evRows E).length : Nat) + 1) = Int.ofNat (E.length + 1) := by rw [hlen]; exact wrap_succ (by omega)
            have h11 : ofSpec [.one (.sl 7 false (evRows E)), .one (di 3)] = some [.one (.sl 7 false [])] := by rw [of_at 3 hEb hn, of_none hth]; rfl
            have hgt : decide (((E.length : Nat) : Int) > 0) = true := decide_eq_true (by omega)
            have heq : (((E.length : Nat) : Int) == ((E.length : Nat) : Int)) = true := by simp
            have hsp := pspans_at (f := false) (l := E.take k) hkl
            have hsE := pspans_at (f := false) (l := E) hEb
            have hle := spans_take k hEr
            by_cases s1 : spansI (E.take k) = []
            · rw [s1] at hsp
              by_cases s2 : spansI E = []
              · rw [s2] at hsE
                exact ⟨_, _, _, pac_t1t1 f _ u _ E.length k _ _ _ false _ [] [] _ _ hmd hlen hgt h4 hk hloop hcut (right_at hkl hkr) hlen heq h11 hcut hsp hsE, rfl⟩
              · rw [made_ne s2] at hsE
                exact ⟨_, _, _, pac_t1t2 f _ u _ E.length k _ _ _ false _ [] _ _ _ _ hmd hlen hgt h4 hk hloop hcut (right_at hkl hkr) hlen heq h11 hcut hsp hsE rfl (decide_eq_true (by omega)), rfl⟩
            · rw [made_ne s1] at hsp
              have s2 : spansI E ≠ [] := fun e => by rw [e] at hle; exact s1 (List.eq_nil_of_length_eq_zero (by simpa using hle))
              rw [made_ne s2] at hsE
              exact ⟨_, _, _, pac_t2t2 f _ u _ E.length k _ _ _ false _ _ _ _ _ _ _ hmd hlen hgt h4 hk hloop hcut (right_at hkl hkr) hlen heq h11 hcut hsp rfl hsE rfl (decide_eq_true (by simp [rowsS]; omega)), rfl⟩
    · cases hs
  · cases hs

end Go.Ev

namespace Go.Proofs.Ytgpdnahmgacffaa
open Go Go.Ev Go.RowKit Go.ChangeShapes Go.WideShapes Go.ChangeAt

theorem own : ownKnob Try.prog.godebug = none := by kernel_rfl
theorem laidOut : laidOutB Try.prog = true := by kernel_rfl
theorem mapsRow : mapsRowed Try.prog = true := by kernel_rfl
theorem kids : Kids Try.prog (· < Try.prog.types.size) := kids_rows laidOut mapsRow
theorem slicesFull : ∀ t e, t < Try.prog.types.size → Try.prog.underlying t = some (.slice e) → 0 < Try.prog.cellsOf e := slices_full_of Try.prog (by kernel_rfl)
theorem und4' : Try.prog.underlying 4 = some .bool := by kernel_rfl

set_option maxRecDepth 100000 in
/-- what is known of a function that answers true, as the row wants it -/
theorem calls_true {C : Ctx} {g : FuncId} {f : Func} {spec : Go.Ev.Spec} (hC : C.P = Try.prog) (hG : ∀ b, C.glob b = none) (hs : Sat C g spec) {H : Type} {enc : TypeId × Value → H} {s : ChangeSpec} {W : World} {args : Array Value} {ds gs : List (DataW H)} {before : List MemPlace} {ps : List PV}
    (hts : ∀ t ∈ f.params.toList, t < Try.prog.types.size) (hrt : f.resultTypes = #[4]) (hW : DataW.Whole enc Try.prog f.params.toList s.vars false W args.toList ds gs before) (hv : s.vars = [])
    (hargs : (s.fn H (ds ++ gs)).args = ds) (hvars : (s.fn H (ds ++ gs)).vars = []) (hres : (s.fn H (ds ++ gs)).results = [.lit (.bool true)])
    (hps : RPs (FW W) W ps args.toList) (hsp : spec ps = some [pbool true]) :
    Calls Try.prog g args W fun e W' => ∃ v, e = .returned v ∧ s.post enc Try.prog f false true false false W args v W' := by
  have h := hs ps _ hsp (FW W) W args.toList (fun _ _ h => h) (fun b row hb => by rw [hG] at hb; cases hb) hps
  rw [hC] at h
  have e : args.toList.toArray = args := by simp
  rw [e] at h
  refine h.mono ?_
  rintro e W' ⟨v, F', rfl, hb, _, _, _, hr⟩
  have hvv : v = .bool true := by
    cases hr with
    | one _ _ h =>
      cases h with
      | one _ _ h => cases h; rfl
    | many ps vs hn _ => exact absurd rfl hn
  subst hvv
  refine ⟨_, rfl, post_below kids slicesFull hts hW hv hargs hvars (fun b sp hd => ?_) hb ?_⟩
  · rw [hrt, hres]
    exact trodAll_mk1 (shut_bool und4' _)
  · exact ok_one hrt rfl (okWide_bool_mk und4' _)

end Go.Proofs.Ytgpdnahmgacffaa

namespace Go.Ev
open Go Go.RowKit Go.Proofs Go.ChangeShapes Go.WideShapes Go.ChangeAt

abbrev Byt := { u : Int // 0 ≤ u ∧ u < 256 }
section
variable {H : Type} {enc : TypeId × Value → H} {W : World} {base : Nat} {sp : Nat → Bool} {hd : Bool} {n : Nat}
theorem u8_wf {u : Int} (h : (Lit.int .u8 u).wf = true) : 0 ≤ u ∧ u < 256 := by
  simp [Lit.wf, IntKind.min, IntKind.max, IntKind.bits, IntKind.signed] at h
  omega
theorem trod5 {cs : List Value} {x : DataW H × List MemPlace} (h : DataW.trod enc Try.prog W base sp hd n 5 cs = some x) : ∃ a : Byt, cs = [.int .u8 a.1] := by
  obtain ⟨a, h1, _, h2⟩ := DataW.trod_int (k := .u8) (by kernel_rfl) h
  exact ⟨⟨a, u8_wf h2⟩, h1⟩
theorem co5 : Try.prog.cellsOf 5 = 1 := by kernel_rfl
theorem und36 : Try.prog.underlying 36 = some (.slice 5) := by kernel_rfl
theorem und5 : Try.prog.underlying 5 = some (.int .u8) := by kernel_rfl
set_option maxRecDepth 100000 in
theorem rp_bytes {v : Value} {d : DataW H} {p : List MemPlace} (hok : Value.okWide Try.prog W .any base 36 v) (h : DataW.Trod enc Try.prog W 0 sp hd 36 v d p) :
    ∃ (pv : PV) (l : List Int), RP (FW W) W pv v ∧ bytesOf pv = some l := by
  rcases rp_slice (α := Byt) (w := 1) (f := fun c => [.int .u8 c.1]) (g := fun c => [.v (.int .u8 c.1)]) (Inst := ⟨⟨0, by decide⟩⟩) und36 co5 trod5 (fun _ => rfl) (fun _ => rfl) (fun a j x y hx hy => by
    match j, hx, hy with
    | 0, hx, hy => simp at hx hy; subst hx; subst hy; exact ⟨rfl, rfl⟩
    | j + 1, hx, hy => simp at hx) hok h with rfl | ⟨l, hl⟩
  · exact ⟨nilPV, [], .one _ _ (.v _ rfl), rfl⟩
  · refine ⟨_, l.map (·.1), hl, ?_⟩
    have e : l.map (fun c : Byt => [DV.v (.int .u8 c.1)]) = rowsU (l.map (·.1)) := by simp [rowsU]
    rw [e]
    refine bytesOf_sl fun u hu => ?_
    obtain ⟨c, _, rfl⟩ := List.mem_map.1 hu
    exact c.2
set_option maxRecDepth 100000 in
theorem rp_byte {v : Value} {d : DataW H} {p : List MemPlace} (hok : Value.okWide Try.prog W .any base 5 v) (h : DataW.Trod enc Try.prog W 0 sp hd 5 v d p) :
    ∃ (pv : PV) (u : Int), RP (FW W) W pv v ∧ byteOf pv = some u := by
  obtain ⟨u, rfl, _, _, hw⟩ := open_int und5 hok h
  exact ⟨.one (.v (.int .u8 u)), u, .one _ _ (.v _ rfl), by unfold byteOf; exact if_pos (u8_wf hw)⟩
end

end Go.Ev

namespace Go.Ev
open Go Go.RowKit Go.Proofs

theorem cll_ (s : S4) :
    Ev C0 noO (Task.call 27 [aggS s] { }) (.val (AV.agg [vi s.1, vi s.snd.1]) { objs := [(221185, 1, [AO.cells [vi s.1, vi s.snd.1, vi s.snd.snd.1, vi s.snd.snd.2] false]), (221186, 1, [AO.cells [vi s.1, vi s.snd.1] false])] }) :=
  sym_ev 60 _ [] _ [] _ (by kernel_rfl) AllP_nil

end Go.Ev

namespace Go.Ev
open Go Go.RowKit Go.Proofs

def callSpec : Spec
  | [.agg [.v (.int .i64 a), .v (.int .i64 b), .v (.int .i64 c), .v (.int .i64 d)]] => some [.agg [di a, di b]]
  | _ => none
theorem call_sat : Sat C0 27 callSpec := by
  refine sat_of_ev (O := noO) hP0 (fun _ _ h => h.elim) hm0 fun ps rs hs => ?_
  unfold callSpec at hs
  split at hs
  · rename_i a b c d
    simp only [Option.some.injEq] at hs
    subst hs
    exact ⟨_, _, _, cll_ (a, b, c, d), rfl⟩
  · cases hs

def L8 : List (FuncId × Spec) := (27, callSpec) :: L7
noncomputable def C8 : Ctx := { P := Try.prog, prim := primL L8 }
theorem hP8 : PrimOK C8 := primOK_cons hP7 rfl (by decide) (call_sat.ctx rfl rfl) rfl rfl rfl (by kernel_rfl)
theorem call_at (s : S4) : callSpec [.agg [di s.1, di s.2.1, di s.2.2.1, di s.2.2.2]] = some [.agg [di s.1, di s.2.1]] := rfl

/-- a law's answer -/
def lawBytesSpec : Spec
  | [p] => match bytesOf p with
    | some l => some [pbool true]
    | none => none
  | _ => none

end Go.Ev

namespace Go.Ev
open Go

def cnt (k : Int) (l : List Evt) : Nat := (l.filter fun e => e.th == k).length
theorem cnt_snoc (k : Int) (l : List Evt) (e : Evt) : cnt k (l ++ [e]) = cnt k l + (if e.th = k then 1 else 0) := by
  unfold cnt
  rw [List.filter_append, List.length_append, List.filter_cons]
  by_cases h : e.th = k <;> simp [h]
theorem rrStep_some {fr fr' : List Int} {e : Evt} (h : rrStep fr e = some fr') : 0 ≤ e.th ∧ e.th < 64 ∧ ∃ a, fr[e.th.toNat]? = some a ∧ e.ca = a / 2 ∧ e.re = decide (a % 2 = 1) ∧ fr' = fr.set e.th.toNat (a + 1) := by
  unfold rrStep at h
  split at h
  · cases h
  · rename_i hr
    split at h
    · cases h
    · rename_i a ha
      split at h
      · rename_i hc
        simp only [Option.some.injEq] at h
        exact ⟨by omega, by omega, a, ha, hc.1, hc.2.1, h.symm⟩
      · cases h
theorem rr_seq : ∀ (rest pre : List Evt) (fr : List Int), (∀ k : Nat, k < 64 → fr[k]? = some (cnt k pre : Int)) → fr.length = 64 → rrL fr rest = true → ∀ (n : Nat) (e : Evt), rest[n]? = some e →
    0 ≤ e.th ∧ e.th < 64 ∧ e.ca = (cnt e.th (pre ++ rest.take n) : Int) / 2 ∧ e.re = decide ((cnt e.th (pre ++ rest.take n) : Int) % 2 = 1)
  | [], pre, fr, h, hl, hr, n, e, he => by simp at he
  | x :: rest, pre, fr, h, hl, hr, n, e, he => by
    unfold rrL at hr
    split at hr
    · cases hr
    · rename_i fr' hs
      obtain ⟨h0, h1, a, ha, hca, hre, rfl⟩ := rrStep_some hs
      have hk := h x.th.toNat (by omega)
      rw [ha] at hk
      simp only [Option.some.injEq] at hk
      have hth : ((x.th.toNat : Nat) : Int) = x.th := by omega
      rw [hth] at hk
      cases n with
      | zero =>
        simp only [List.getElem?_cons_zero, Option.some.injEq] at he
        subst he
        simp only [List.take_zero, List.append_nil]
        exact ⟨h0, h1, by rw [hca, hk], by rw [hre, hk]⟩
      | succ n =>
        simp only [List.getElem?_cons_succ] at he
        have ih := rr_seq rest (pre ++ [x]) _ (fun k hk2 => ?_) (by simpa using hl) hr n e he
        · rw [List.append_assoc] at ih
          exact ih
        · by_cases hkk : x.th.toNat = k
          · subst hkk
            rw [List.getElem?_set_self (by omega), cnt_snoc, hth, if_pos rfl, hk]
            simp
          · rw [List.getElem?_set_ne hkk, h k hk2, cnt_snoc, if_neg (by omega)]
            simp
def code (e : Evt) : Int := 2 * e.ca + if e.re then 1 else 0
theorem seq_of {l : List Evt} (h : rightB l = true) {n : Nat} {e : Evt} (he : l[n]? = some e) : code e = (cnt e.th (l.take n) : Int) := by
  rw [right_eq] at h
  unfold refRightB at h
  split at h
  · cases h
  · obtain ⟨-, -, h1, h2⟩ := rr_seq l [] far0 (fun k hk => by unfold far0; rw [List.getElem?_replicate, if_pos hk]; rfl) (by simp [far0]) h n e he
    simp only [List.nil_append] at h1 h2
    unfold code
    rw [h1, h2]
    by_cases hc : (cnt e.th (l.take n) : Int) % 2 = 1
    · simp [hc]; omega
    · simp [hc]; omega
theorem cnt_le (k : Int) (l : List Evt) (n m : Nat) (h : n ≤ m) : cnt k (l.take n) ≤ cnt k (l.take m) := by
  have : (l.take n).Sublist (l.take m) := List.take_sublist_take_left h
  exact (this.filter _).length_le
theorem cnt_lt {k : Int} {l : List Evt} {n m : Nat} {e : Evt} (he : l[n]? = some e) (hk : e.th = k) (h : n < m) : cnt k (l.take n) < cnt k (l.take m) := by
  have h1 := cnt_le k l (n + 1) m h
  have h2 : l.take (n + 1) = l.take n ++ [e] := by
    rw [List.take_add_one, he]; rfl
  rw [h2, cnt_snoc, if_pos hk] at h1
  omega
/-- of one thread, what is earlier has the smaller code -/
theorem code_lt {l : List Evt} (h : rightB l = true) {n m : Nat} {d e : Evt} (hd : l[n]? = some d) (he : l[m]? = some e) (ht : d.th = e.th) : n < m ↔ code d < code e := by
  have h1 := seq_of h hd
  have h2 := seq_of h he
  rw [ht] at h1
  constructor
  · intro hlt
    have := cnt_lt hd ht hlt
    omega
  · intro hlt
    rcases Nat.lt_or_ge n m with h3 | h3
    · exact h3
    · have := cnt_le e.th l m n h3
      omega
/-- what has gone before: each smaller count was some event's -/
theorem cnt_hit (k : Int) (l : List Evt) (j : Nat) : ∀ n : Nat, j < cnt k (l.take n) → ∃ (m : Nat) (e : Evt), m < n ∧ l[m]? = some e ∧ e.th = k ∧ cnt k (l.take m) = j
  | 0, h => by simp [cnt] at h
  | n + 1, h => by
    cases he : l[n]? with
    | none =>
      have : l.take (n + 1) = l.take n := by rw [List.take_add_one, he]; simp
      rw [this] at h
      obtain ⟨m, e, h1, h2⟩ := cnt_hit k l j n h
      exact ⟨m, e, by omega, h2⟩
    | some e =>
      have h2 : l.take (n + 1) = l.take n ++ [e] := by rw [List.take_add_one, he]; rfl
      rw [h2, cnt_snoc] at h
      by_cases hj : j < cnt k (l.take n)
      · obtain ⟨m, e, h1, h2⟩ := cnt_hit k l j n hj
        exact ⟨m, e, by omega, h2⟩
      · by_cases hk : e.th = k
        · rw [if_pos hk] at h
          exact ⟨n, e, by omega, he, hk, by omega⟩
        · rw [if_neg hk] at h
          omega

/-! ### places -/
theorem place_at_ix {l : List Evt} (h : rightB l = true) {n : Nat} {e : Evt} (he : l[n]? = some e) : placeI (e.th, e.ca) e.re l = n := by
  rcases placeI_eq (e.th, e.ca) e.re l with ⟨_, h2⟩ | ⟨k, h1, h2⟩
  · obtain ⟨k, hk⟩ := placeF_mem (e.th, e.ca) e.re (e := e) (by simp [hits]) l 0 (List.mem_of_getElem? he)
    rw [h2] at hk; cases hk
  · obtain ⟨_, _, d, hd, hh⟩ := placeF_some _ _ _ _ _ h2
    simp only [Nat.sub_zero] at hd
    simp only [hits, decide_eq_true_eq] at hh
    obtain ⟨g1, g2, g3⟩ := hh
    have hc : code d = code e := by unfold code; rw [g2, g3]
    have e1 := code_lt h hd he g1
    have e2 := code_lt h he hd g1.symm
    rw [h1]
    omega
theorem ix_of_place {l : List Evt} {c : Int × Int} {ret : Bool} (h0 : 0 ≤ placeI c ret l) : ∃ (n : Nat) (e : Evt), placeI c ret l = n ∧ l[n]? = some e ∧ e.th = c.1 ∧ e.ca = c.2 ∧ e.re = ret := by
  rcases placeI_eq c ret l with ⟨h1, _⟩ | ⟨k, h1, h2⟩
  · omega
  · obtain ⟨_, _, d, hd, hh⟩ := placeF_some _ _ _ _ _ h2
    simp only [Nat.sub_zero] at hd
    simp only [hits, decide_eq_true_eq] at hh
    exact ⟨k, d, h1, hd, hh⟩
theorem before_iff {l : List Evt} (h : rightB l = true) (a b : Int × Int) : beforeB l a b = true ↔ 0 ≤ placeI a true l ∧ placeI a true l < placeI b false l := by
  rw [before_eq]
  unfold refBeforeB
  rw [← right_eq, h]
  simp only [Bool.true_and, Bool.and_eq_true, decide_eq_true_eq, gt_iff_lt, ge_iff_le]
theorem end_after {l : List Evt} (h : rightB l = true) (c : Int × Int) (h1 : 0 ≤ placeI c true l) (h0 : 0 ≤ placeI c false l) : placeI c false l < placeI c true l := by
  obtain ⟨n, d, e1, hd, a1, a2, a3⟩ := ix_of_place h1
  obtain ⟨m, e, e2, he, b1, b2, b3⟩ := ix_of_place h0
  have := (code_lt h he hd (by rw [a1, b1])).2 (by unfold code; rw [a2, b2, a3, b3]; simp; omega)
  omega
theorem before_irr {l : List Evt} (h : rightB l = true) (c : Int × Int) : beforeB l c c = false := by
  cases e : beforeB l c c with
  | false => rfl
  | true =>
    obtain ⟨h1, h2⟩ := (before_iff h c c).1 e
    have := end_after h c h1 (by omega)
    omega
theorem before_trans {l : List Evt} (h : rightB l = true) {a b c : Int × Int} (h1 : beforeB l a b = true) (h2 : beforeB l b c = true) : beforeB l a c = true := by
  obtain ⟨p1, p2⟩ := (before_iff h a b).1 h1
  obtain ⟨q1, q2⟩ := (before_iff h b c).1 h2
  have := end_after h b q1 (by omega)
  exact (before_iff h a c).2 ⟨p1, by omega⟩
/-- of one thread the calls that began are Before one another as they are numbered -/
theorem before_thread {l : List Evt} (h : rightB l = true) {t x y : Int} (hx : 0 ≤ placeI (t, x) false l) (hy : 0 ≤ placeI (t, y) false l) : beforeB l (t, x) (t, y) = decide (x < y) := by
  obtain ⟨m, e, e2, he, b1, b2, b3⟩ := ix_of_place hy
  change e.th = t at b1
  change e.ca = y at b2
  have hce : code e = 2 * y := by unfold code; rw [b2, b3]; simp
  by_cases hlt : x < y
  · rw [decide_eq_true hlt, before_iff h]
    obtain ⟨n0, e0, f2, hf, c1, c2, c3⟩ := ix_of_place hx
    change e0.th = t at c1
    change e0.ca = x at c2
    have hcf : code e0 = 2 * x := by unfold code; rw [c2, c3]; simp
    have h0 := seq_of h hf
    have h1 := seq_of h he
    rw [b1, hce] at h1
    rw [hcf] at h0
    obtain ⟨n, d, hn, hd, ht, hc⟩ := cnt_hit t l (2 * x + 1).toNat m (by omega)
    have h2 := seq_of h hd
    rw [ht, hc] at h2
    have hdc : d.ca = x ∧ d.re = true := by
      unfold code at h2
      cases hr : d.re with
      | true => rw [hr] at h2; simp at h2; exact ⟨by omega, rfl⟩
      | false => rw [hr] at h2; simp at h2; exfalso; omega
    have hp := place_at_ix h hd
    rw [ht, hdc.1, hdc.2] at hp
    rw [hp, e2]
    omega
  · rw [decide_eq_false hlt]
    cases e : beforeB l (t, x) (t, y) with
    | false => rfl
    | true =>
      obtain ⟨p1, p2⟩ := (before_iff h _ _).1 e
      obtain ⟨n, d, e1, hd, a1, a2, a3⟩ := ix_of_place p1
      change d.th = t at a1
      change d.ca = x at a2
      have hcd : code d = 2 * x + 1 := by unfold code; rw [a2, a3]; simp
      have := (code_lt h hd he (by rw [a1, b1])).1 (by omega)
      omega

end Go.Ev

namespace Go.Ev
open Go

theorem mem_refSpansIx (all : List Evt) (x : S4) : ∀ (l : List Evt) (i : Nat), x ∈ refSpansL all i l → ∃ (n : Nat) (e : Evt), l[n]? = some e ∧ e.re = false ∧ x = (e.th, e.ca, ((i + n : Nat) : Int), placeI (e.th, e.ca) true all)
  | [], i, h => by simp [refSpansL] at h
  | e :: l, i, h => by
    unfold refSpansL at h
    cases hr : e.re with
    | true =>
      simp only [hr, if_true] at h
      obtain ⟨n, d, h1, h2, h3⟩ := mem_refSpansIx all x l (i + 1) h
      exact ⟨n + 1, d, by simpa using h1, h2, by rw [h3]; congr 3; omega⟩
    | false =>
      simp only [hr, Bool.false_eq_true, if_false] at h
      rcases List.mem_cons.1 h with rfl | h
      · exact ⟨0, e, by simp, hr, rfl⟩
      · obtain ⟨n, d, h1, h2, h3⟩ := mem_refSpansIx all x l (i + 1) h
        exact ⟨n + 1, d, by simpa using h1, h2, by rw [h3]; congr 3; omega⟩
theorem spans_fact {l : List Evt} (h : rightB l = true) {s : S4} (hs : s ∈ spansI l) :
    0 ≤ placeI (s.1, s.2.1) false l ∧ s.2.2.1 = placeI (s.1, s.2.1) false l ∧ s.2.2.2 = placeI (s.1, s.2.1) true l := by
  rw [spans_eq] at hs
  unfold refSpansI at hs
  rw [← right_eq, h, if_pos rfl] at hs
  obtain ⟨n, e, he, hr, rfl⟩ := mem_refSpansIx l s l 0 hs
  have := place_at_ix h he
  rw [hr] at this
  refine ⟨by simp only; omega, by simp only; omega, rfl⟩
theorem spans_ne {l : List Evt} (h : rightB l = true) (hn : l ≠ []) : spansI l ≠ [] := by
  obtain ⟨e, r, rfl⟩ : ∃ e r, l = e :: r := by cases l with | nil => exact absurd rfl hn | cons e r => exact ⟨e, r, rfl⟩
  have hc := seq_of h (n := 0) (e := e) rfl
  simp [cnt, code] at hc
  have hr : e.re = false := by
    cases hr : e.re with
    | false => rfl
    | true => rw [hr] at hc; simp at hc; omega
  rw [spans_eq]
  unfold refSpansI
  rw [← right_eq, h, if_pos rfl]
  unfold refSpansL
  simp [hr]

end Go.Ev
