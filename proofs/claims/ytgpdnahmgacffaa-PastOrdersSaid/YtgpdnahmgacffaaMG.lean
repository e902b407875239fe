/- What the proof of this claim needs: part MG. No conditions. -/
import Derived.Test.YtgpdnahmgacffaaMF
import Derived.OpenShut
import Derived.ReadAgain
import Derived.WalkKit
import Derived.ProofKit
import Derived.Deep.Slices
set_option linter.unusedVariables false
set_option linter.unusedSimpArgs false

namespace Go.Ev
open Go

/-! ### right -/
/-- what is next of each thread, and how far it is -/
def Far (nx : List Evt) (fr : List Int) : Prop :=
  nx.length = 64 ∧ fr.length = 64 ∧ ∀ k : Nat, k < 64 → ∃ n a, nx[k]? = some n ∧ fr[k]? = some a ∧ n.th = (k : Int) ∧ 0 ≤ a ∧ n.ca = a / 2 ∧ n.re = decide (a % 2 = 1)

theorem Far.step {nx : List Evt} {fr : List Int} (h : Far nx fr) (e : Evt) :
    (rtStep nx e = none ∧ rrStep fr e = none) ∨ ∃ nx' fr', rtStep nx e = some nx' ∧ rrStep fr e = some fr' ∧ Far nx' fr' := by
  obtain ⟨h1, h2, h3⟩ := h
  unfold rtStep rrStep
  by_cases hr : e.th < 0 ∨ e.th ≥ 64
  · left
    have hr2 : e.th < 0 ∨ e.th > 63 := by omega
    rw [if_pos hr, if_pos hr2]
    exact ⟨rfl, rfl⟩
  have hr2 : ¬ (e.th < 0 ∨ e.th > 63) := by omega
  rw [if_neg hr, if_neg hr2]
  have hk : e.th.toNat < 64 := by omega
  obtain ⟨n, a, k1, k2, k3, k4, k5, k6⟩ := h3 e.th.toNat hk
  rw [k1, k2]
  simp only
  have hth : ((e.th.toNat : Nat) : Int) = e.th := by omega
  by_cases hc : e.ca = a / 2 ∧ e.re = decide (a % 2 = 1) ∧ (e.re = true ∨ e.an = ans0)
  · right
    have hc' := hc
    obtain ⟨c1, c2, c3⟩ := hc
    have heq : e = { n with an := if e.re then e.an else ans0 } := by
      obtain ⟨eth, eca, ere, ean⟩ := e
      obtain ⟨nth, nca, nre, nan⟩ := n
      simp only at *
      simp only [Evt.mk.injEq]
      refine ⟨by omega, by omega, by rw [c2, k6], ?_⟩
      rcases c3 with c3 | c3
      · rw [if_pos c3]
      · split
        · rfl
        · exact c3
    rw [if_pos heq, if_pos hc']
    refine ⟨_, _, rfl, rfl, by simpa using h1, by simpa using h2, fun k hk2 => ?_⟩
    by_cases hkk : e.th.toNat = k
    · subst hkk
      refine ⟨_, _, List.getElem?_set_self (by omega), List.getElem?_set_self (by omega), by simp only; omega, by omega, ?_, ?_⟩
      · simp only
        cases hre : e.re with
        | true =>
          rw [hre] at c2
          have : a % 2 = 1 := by simpa using c2.symm
          simp only [if_true]; omega
        | false =>
          rw [hre] at c2
          have : ¬ a % 2 = 1 := by simpa using c2.symm
          simp only [Bool.false_eq_true, if_false]; omega
      · simp only
        rw [c2]
        by_cases ha : a % 2 = 1
        · have : ¬ (a + 1) % 2 = 1 := by omega
          simp [ha, this]
        · have : (a + 1) % 2 = 1 := by omega
          simp [ha, this]
    · obtain ⟨m, b, q1, q2, q3⟩ := h3 k hk2
      exact ⟨m, b, by rw [List.getElem?_set_ne hkk]; exact q1, by rw [List.getElem?_set_ne hkk]; exact q2, q3⟩
  · left
    rw [if_neg hc]
    refine ⟨?_, rfl⟩
    rw [if_neg]
    intro heq
    apply hc
    have e1 := congrArg Evt.ca heq
    have e2 := congrArg Evt.re heq
    have e3 := congrArg Evt.an heq
    simp only at e1 e2 e3
    refine ⟨by omega, by rw [e2, k6], ?_⟩
    cases hre : e.re with
    | true => exact .inl rfl
    | false => rw [hre] at e3; exact .inr (by simpa using e3)

theorem Far.right {nx : List Evt} {fr : List Int} (h : Far nx fr) : ∀ l : List Evt, rtL nx l = rrL fr l := by
  intro l
  induction l generalizing nx fr with
  | nil => rfl
  | cons e l ih =>
    unfold rtL rrL
    rcases h.step e with ⟨h1, h2⟩ | ⟨nx', fr', h1, h2, h3⟩
    · rw [h1, h2]
    · rw [h1, h2]; exact ih h3
theorem far_start : Far nx0 far0 := by
  refine ⟨by simp [nx0], by simp [far0], fun k hk => ⟨⟨(k : Int), 0, false, ans0⟩, 0, by simp [nx0, hk], by rw [far0, List.getElem?_replicate, if_pos hk], rfl, by omega, by simp, by simp⟩⟩
theorem right_eq (l : List Evt) : rightB l = refRightB l := by
  unfold rightB refRightB
  split
  · rfl
  · exact far_start.right l

end Go.Ev

namespace Go.Ev
open Go

def hits (c : Int × Int) (ret : Bool) (e : Evt) : Bool := decide (e.th = c.1 ∧ e.ca = c.2 ∧ e.re = ret)
theorem placeF_snoc (c : Int × Int) (ret : Bool) (e : Evt) : ∀ (l : List Evt) (i : Nat), placeF c ret i (l ++ [e]) = match placeF c ret i l with
    | some k => some k
    | none => if hits c ret e then some (i + l.length) else none
  | [], i => by simp only [List.nil_append, placeF, hits, decide_eq_true_eq]; rfl
  | x :: l, i => by
    simp only [List.cons_append, placeF]
    split
    · rfl
    · rw [placeF_snoc c ret e l (i + 1)]
      simp only [List.length_cons, show i + 1 + l.length = i + (l.length + 1) by omega]
theorem placeF_some (c : Int × Int) (ret : Bool) : ∀ (l : List Evt) (i k : Nat), placeF c ret i l = some k → i ≤ k ∧ k < i + l.length ∧ ∃ e, l[k - i]? = some e ∧ hits c ret e = true
  | [], i, k, h => by simp [placeF] at h
  | x :: l, i, k, h => by
    unfold placeF at h
    split at h
    · rename_i hx
      simp only [Option.some.injEq] at h
      subst h
      exact ⟨Nat.le_refl _, by simp, x, by simp, by simpa [hits] using hx⟩
    · obtain ⟨h1, h2, e, h3, h4⟩ := placeF_some c ret l (i + 1) k h
      refine ⟨by omega, by simp; omega, e, ?_, h4⟩
      rw [show k - i = (k - (i + 1)) + 1 by omega]
      simpa using h3
theorem placeF_mem (c : Int × Int) (ret : Bool) {e : Evt} (h : hits c ret e = true) : ∀ (l : List Evt) (i : Nat), e ∈ l → ∃ k, placeF c ret i l = some k
  | x :: l, i, hm => by
    unfold placeF
    split
    · exact ⟨_, rfl⟩
    · rename_i hx
      rcases List.mem_cons.1 hm with rfl | hm
      · exact absurd (by simpa [hits] using h) hx
      · exact placeF_mem c ret h l (i + 1) hm
theorem placeI_eq (c : Int × Int) (ret : Bool) (l : List Evt) : (placeI c ret l = -1 ∧ placeF c ret 0 l = none) ∨ ∃ k : Nat, placeI c ret l = (k : Int) ∧ placeF c ret 0 l = some k := by
  unfold placeI
  cases placeF c ret 0 l with
  | none => exact .inl ⟨rfl, rfl⟩
  | some k => exact .inr ⟨k, rfl, rfl⟩

theorem getKV_set (c d v : Int × Int) : ∀ (m : MapE), getKV c (setKV d v m) = if c = d then some v else getKV c m
  | [] => by simp only [setKV, getKV]
  | e :: r => by
    simp only [setKV]
    split
    · rename_i h
      simp only [getKV]
      subst h
      by_cases h1 : c = e.1
      · simp [h1]
      · simp [h1]
    · rename_i h
      simp only [getKV, getKV_set c d v r]
      by_cases h1 : c = e.1
      · have : ¬ c = d := fun h2 => h (by rw [← h2, h1])
        simp [h1]
        intro h3; exact absurd h3.symm h
      · simp [h1]

/-- what the map tells of the events so far -/
def Met (pre : List Evt) (m : MapE) : Prop := ∀ c, getKV c m = match placeF c false 0 pre with
  | none => none
  | some b => some ((b : Int), placeI c true pre)
/-- which calls have begun, and which have ended -/
def Done (pre : List Evt) (nx : List Evt) : Prop := nx.length = 64 ∧ ∀ k : Nat, k < 64 → ∃ n, nx[k]? = some n ∧ n.th = (k : Int) ∧ 0 ≤ n.ca ∧ ∀ ca : Int,
  ((placeF ((k : Int), ca) false 0 pre).isSome = true ↔ 0 ≤ ca ∧ (ca < n.ca ∨ (ca = n.ca ∧ n.re = true))) ∧ ((placeF ((k : Int), ca) true 0 pre).isSome = true ↔ 0 ≤ ca ∧ ca < n.ca)

theorem snoc_isSome (c : Int × Int) (ret : Bool) (e : Evt) (l : List Evt) : (placeF c ret 0 (l ++ [e])).isSome = ((placeF c ret 0 l).isSome || hits c ret e) := by
  rw [placeF_snoc]
  cases placeF c ret 0 l with
  | some k => rfl
  | none => cases hits c ret e <;> rfl

theorem step_of {nx nx' : List Evt} {e : Evt} (h : rtStep nx e = some nx') : 0 ≤ e.th ∧ e.th < 64 ∧ ∃ n, nx[e.th.toNat]? = some n ∧ n.th = e.th ∧ n.ca = e.ca ∧ n.re = e.re ∧ nx' = nx.set e.th.toNat { e with ca := if e.re then e.ca + 1 else e.ca, re := !e.re } := by
  unfold rtStep at h
  by_cases hr : e.th < 0 ∨ e.th ≥ 64
  · rw [if_pos hr] at h; cases h
  · rw [if_neg hr] at h
    cases hn : nx[e.th.toNat]? with
    | none => simp only [hn] at h; cases h
    | some n =>
      simp only [hn] at h
      by_cases he : e = { n with an := if e.re then e.an else ans0 }
      · rw [if_pos he] at h
        simp only [Option.some.injEq] at h
        exact ⟨by omega, by omega, n, rfl, (congrArg Evt.th he).symm, (congrArg Evt.ca he).symm, (congrArg Evt.re he).symm, h.symm⟩
      · rw [if_neg he] at h; cases h

theorem Done.step {pre nx nx' : List Evt} {e : Evt} (h : Done pre nx) (hs : rtStep nx e = some nx') : Done (pre ++ [e]) nx' := by
  obtain ⟨t1, t2, n, hn, n1, n2, n3, rfl⟩ := step_of hs
  obtain ⟨hl, hd⟩ := h
  refine ⟨by simpa using hl, fun k hk => ?_⟩
  obtain ⟨n', k1, k2, k3, k4⟩ := hd k hk
  by_cases hkk : e.th.toNat = k
  · subst hkk
    rw [hn] at k1
    obtain rfl : n = n' := by simpa using k1
    refine ⟨_, List.getElem?_set_self (by omega), by simp only; omega, ?_, fun ca => ?_⟩
    · simp only; split <;> omega
    · obtain ⟨q1, q2⟩ := k4 ca
      rw [snoc_isSome, snoc_isSome]
      simp only [Bool.or_eq_true, hits, decide_eq_true_eq, q1, q2]
      cases hre : e.re with
      | true =>
        rw [hre] at n3
        simp only [n3, if_true, Bool.not_true, Bool.false_eq_true, and_false, or_false, and_true, reduceCtorEq]
        constructor
        · constructor
          · rintro ⟨h1, h2⟩; omega
          · rintro ⟨h1, h2⟩; omega
        · constructor
          · rintro (⟨h1, h2⟩ | ⟨h1, h2⟩) <;> omega
          · rintro ⟨h1, h2⟩
            by_cases h3 : ca = n.ca
            · exact .inr ⟨by omega, by omega⟩
            · exact .inl ⟨h1, by omega⟩
      | false =>
        rw [hre] at n3
        simp only [n3, Bool.false_eq_true, if_false, Bool.not_false, and_false, or_false, and_true, reduceCtorEq]
        constructor
        · constructor
          · rintro (⟨h1, h2⟩ | ⟨h1, h2⟩) <;> omega
          · rintro ⟨h1, h2⟩
            by_cases h3 : ca = n.ca
            · exact .inr ⟨by omega, by omega⟩
            · exact .inl ⟨h1, by omega⟩
        · constructor
          · rintro ⟨h1, h2⟩; omega
          · rintro ⟨h1, h2⟩; omega
  · refine ⟨n', by rw [List.getElem?_set_ne hkk]; exact k1, k2, k3, fun ca => ?_⟩
    obtain ⟨q1, q2⟩ := k4 ca
    rw [snoc_isSome, snoc_isSome]
    have hh : ∀ r, hits ((k : Int), ca) r e = false := by
      intro r
      simp only [hits, decide_eq_false_iff_not]
      rintro ⟨h1, -⟩
      omega
    rw [hh, hh, Bool.or_false, Bool.or_false]
    exact ⟨q1, q2⟩

theorem Met.step {pre nx nx' : List Evt} {e : Evt} {m : MapE} (hm : Met pre m) (h : Done pre nx) (hs : rtStep nx e = some nx') :
    Met (pre ++ [e]) (if e.re then setKV (e.th, e.ca) (((getKV (e.th, e.ca) m).getD (0, 0)).1, (pre.length : Int)) m else setKV (e.th, e.ca) ((pre.length : Int), -1) m) := by
  obtain ⟨t1, t2, n, hn, n1, n2, n3, -⟩ := step_of hs
  obtain ⟨n', k1, k2, k3, k4⟩ := h.2 e.th.toNat (by omega)
  rw [hn] at k1
  obtain rfl : n = n' := by simpa using k1
  obtain ⟨q1, q2⟩ := k4 e.ca
  have hth : ((e.th.toNat : Nat) : Int) = e.th := by omega
  rw [hth] at q1 q2
  intro c
  rw [placeF_snoc]
  have hI : ∀ r, placeI c r (pre ++ [e]) = match placeF c r 0 pre with
      | some k => (k : Int)
      | none => if hits c r e then (pre.length : Int) else -1 := by
    intro r
    unfold placeI
    rw [placeF_snoc]
    cases placeF c r 0 pre with
    | some k => rfl
    | none => cases hits c r e <;> simp
  have hmc := hm c
  cases hre : e.re with
  | true =>
    rw [hre] at n3
    simp only [if_true]
    rw [getKV_set]
    have hfb : hits c false e = false := by simp [hits, hre]
    rw [hfb]
    by_cases hc : c = (e.th, e.ca)
    · have hb : (placeF c false 0 pre).isSome = true := by rw [hc]; exact q1.2 ⟨by omega, .inr ⟨by omega, n3⟩⟩
      have ht : placeF c true 0 pre = none := by
        have : ¬ (placeF c true 0 pre).isSome = true := by rw [hc, q2]; omega
        simpa using this
      rw [if_pos hc]
      rw [← hc, hmc]
      obtain ⟨b, hb⟩ := Option.isSome_iff_exists.1 hb
      rw [hb]
      simp only [Option.getD_some]
      rw [hI, ht]
      have : hits c true e = true := by simp [hits, hc, hre]
      simp [this]
    · rw [if_neg hc, hmc]
      have : hits c true e = false := by
        simp only [hits, decide_eq_false_iff_not]
        rintro ⟨h1, h2, -⟩
        exact hc (Prod.ext h1.symm h2.symm)
      have hI' : placeI c true (pre ++ [e]) = placeI c true pre := by
        rw [hI, this]
        unfold placeI
        cases placeF c true 0 pre <;> rfl
      rw [hI']
      cases placeF c false 0 pre <;> rfl
  | false =>
    rw [hre] at n3
    simp only [Bool.false_eq_true, if_false]
    rw [getKV_set]
    have hft : hits c true e = false := by simp [hits, hre]
    have hI' : placeI c true (pre ++ [e]) = placeI c true pre := by
      rw [hI, hft]
      unfold placeI
      cases placeF c true 0 pre <;> rfl
    rw [hI']
    by_cases hc : c = (e.th, e.ca)
    · have hb : placeF c false 0 pre = none := by
        have : ¬ (placeF c false 0 pre).isSome = true := by
          rw [hc, q1, n3]
          simp only [Bool.false_eq_true, and_false, or_false]
          omega
        simpa using this
      have ht : placeF c true 0 pre = none := by
        have : ¬ (placeF c true 0 pre).isSome = true := by rw [hc, q2]; omega
        simpa using this
      rw [if_pos hc, hb]
      have h1 : hits c false e = true := by simp [hits, hc, hre]
      rw [h1]
      have h2 : placeI c true pre = -1 := by unfold placeI; rw [ht]
      simp [h2]
    · rw [if_neg hc, hmc]
      have : hits c false e = false := by
        simp only [hits, decide_eq_false_iff_not]
        rintro ⟨h1, h2, -⟩
        exact hc (Prod.ext h1.symm h2.symm)
      rw [this]
      cases placeF c false 0 pre <;> rfl

theorem met_all : ∀ (rest pre nx : List Evt) (m : MapE), Met pre m → Done pre nx → rtL nx rest = true → Met (pre ++ rest) (metL pre.length rest m) ∧ ∃ nx', Done (pre ++ rest) nx'
  | [], pre, nx, m, hm, hd, h => by simp only [List.append_nil, metL]; exact ⟨hm, nx, hd⟩
  | e :: rest, pre, nx, m, hm, hd, h => by
    unfold rtL at h
    split at h
    · cases h
    · rename_i nx' hs
      have := met_all rest (pre ++ [e]) nx' _ (hm.step hd hs) (hd.step hs) h
      rw [List.append_assoc, List.singleton_append] at this
      unfold metL
      simpa [len_snoc] using this
theorem done_start : Done [] nx0 := by
  refine ⟨by simp [nx0], fun k hk => ⟨⟨(k : Int), 0, false, ans0⟩, by simp [nx0, hk], rfl, Int.le_refl _, fun ca => ?_⟩⟩
  simp only [placeF, Option.isSome_none, Bool.false_eq_true, false_iff]
  constructor
  · simp
  · omega
theorem met_of {l : List Evt} (h : rightB l = true) : Met l (metL 0 l []) ∧ ∃ nx, Done l nx := by
  have h' : rtL nx0 l = true := by
    unfold rightB at h
    split at h
    · cases h
    · exact h
  exact met_all l [] nx0 [] (fun c => rfl) done_start h'

theorem spans_eq (l : List Evt) : spansI l = refSpansI l := by
  unfold spansI refSpansI
  rw [← right_eq]
  split
  · rename_i h
    obtain ⟨hm, _⟩ := met_of h
    have key : ∀ (rest : List Evt) (i : Nat), (∀ e ∈ rest, e ∈ l) → spansL (metL 0 l []) i rest = refSpansL l i rest := by
      intro rest
      induction rest with
      | nil => intro i _; rfl
      | cons e rest ih =>
        intro i hmem
        have ih' := ih (i + 1) (fun x hx => hmem x (by simp [hx]))
        unfold spansL refSpansL
        cases hre : e.re with
        | true => simp only [if_true]; exact ih'
        | false =>
          simp only [Bool.false_eq_true, if_false]
          obtain ⟨b, hb⟩ := placeF_mem (e.th, e.ca) false (e := e) (by simp [hits, hre]) l 0 (hmem e (by simp))
          rw [hm (e.th, e.ca), hb, ih']
          rfl
    exact key l 0 (fun e he => he)
  · rfl

theorem before_eq (l : List Evt) (a b : Int × Int) : beforeB l a b = refBeforeB l a b := by
  unfold beforeB refBeforeB
  rw [← right_eq]
  cases h : rightB l with
  | false => rfl
  | true =>
    simp only [Bool.true_and]
    obtain ⟨hm, nx, hd⟩ := met_of h
    rw [hm a, hm b]
    have hend : ∀ k, placeF a true 0 l = some k → (placeF a false 0 l).isSome = true := by
      intro k hk
      obtain ⟨_, _, e, he, hh⟩ := placeF_some _ _ _ _ _ hk
      simp only [hits, decide_eq_true_eq] at hh
      obtain ⟨h1, h2, h3⟩ := hh
      -- its thread is one of them
      obtain ⟨_, hd⟩ := hd
      have hth : 0 ≤ e.th ∧ e.th < 64 := by
        have hr : ∀ (l nx : List Evt), rtL nx l = true → ∀ e ∈ l, 0 ≤ e.th ∧ e.th < 64 := by
          intro l
          induction l with
          | nil => intro _ _ e he; cases he
          | cons x l ih =>
            intro nx h e he
            unfold rtL at h
            split at h
            · cases h
            · rename_i nx' hs
              rcases List.mem_cons.1 he with rfl | he
              · obtain ⟨t1, t2, _⟩ := step_of hs; exact ⟨t1, t2⟩
              · exact ih nx' h e he
        have h' : rtL nx0 l = true := by
          unfold rightB at h
          split at h
          · cases h
          · exact h
        exact hr l nx0 h' e (List.mem_of_getElem? he)
      obtain ⟨n, k1, k2, k3, k4⟩ := hd e.th.toNat (by omega)
      obtain ⟨q1, q2⟩ := k4 a.2
      have ha : (((e.th.toNat : Nat) : Int), a.2) = a := by
        have : ((e.th.toNat : Nat) : Int) = a.1 := by omega
        rw [this]
      rw [ha] at q1 q2
      have := q2.1 (by rw [hk]; rfl)
      exact q1.2 ⟨this.1, .inl this.2⟩
    rcases placeI_eq a true l with ⟨e1, e2⟩ | ⟨k, e1, e2⟩
    · rw [e1]
      cases ha : placeF a false 0 l with
      | none => simp
      | some ba =>
        cases hb : placeF b false 0 l with
        | none => simp
        | some bb => simp [aheadI, e1]
    · obtain ⟨ba, ha⟩ := Option.isSome_iff_exists.1 (hend k e2)
      rw [e1, ha]
      rcases placeI_eq b false l with ⟨f1, f2⟩ | ⟨j, f1, f2⟩
      · rw [f1, f2]
        have : ¬ ((-1 : Int) > (k : Int)) := by omega
        simp [this]
      · rw [f1, f2]
        simp [aheadI, e1]

end Go.Ev

namespace Go.Ev
open Go Go.RowKit Go.Proofs Go.ChangeShapes Go.WideShapes Go.ChangeAt

section
variable {H : Type} {enc : TypeId × Value → H} {P : Program}
theorem carryAll {w w' : World} {base : Nat} {sp : Nat → Bool} {held : Bool} : ∀ {ts : List TypeId} {vs : List Value} {ds : List (DataW H)} {ps : List MemPlace},
    DataW.TrodAll enc P w base sp held ts vs ds ps → (∀ p ∈ ps, w.sameAt w' p) → DataW.TrodAll enc P w' base sp held ts vs ds ps
  | [], [], [], _, h, _ => h
  | _ :: _, _ :: _, _ :: _, _, ⟨p, q, ⟨n, h1⟩, h2, e⟩, hs =>
    ⟨p, q, ⟨n, DataW.trod_carry n _ _ _ h1 (fun x hx => hs x (by rw [e]; exact List.mem_append_left _ hx))⟩, carryAll h2 (fun x hx => hs x (by rw [e]; exact List.mem_append_right _ hx)), e⟩
theorem sameAt_below {w w' : World} (hb : Below w.heap.size w w') {p : MemPlace} (hp : p.block < w.heap.size) : w.sameAt w' p := by
  cases p with
  | cell b off => exact World.cell?_of_block (w := w) (hb.block b hp)
  | map b => exact hb.block b hp

/-- the row's last step, where the function has written nothing that was there -/
theorem post_below {f : Func} {s : ChangeSpec} {apart fresh handsOn again : Bool} {W W' : World} {args : Array Value} {v : Value} {ds gs : List (DataW H)} {before : List MemPlace}
    (K : Kids P (· < P.types.size)) (hz : ∀ t e, t < P.types.size → P.underlying t = some (.slice e) → 0 < P.cellsOf e) (hts : ∀ t ∈ f.params.toList, t < P.types.size)
    (hW : DataW.Whole enc P f.params.toList s.vars apart W args.toList ds gs before) (hv : s.vars = [])
    (hargs : (s.fn H (ds ++ gs)).args = ds) (hvars : (s.fn H (ds ++ gs)).vars = [])
    (hres : ∀ (b : Nat) (sp : Nat → Bool) (hd : Bool), DataW.TrodAll enc P W' b sp hd f.resultTypes.toList (v.resultList f.resultTypes.size) (s.fn H (ds ++ gs)).results [])
    (hb : Below W.heap.size W W')
    (hok : ∀ (j : Nat) (t : TypeId) (r : Value), f.resultTypes[j]? = some t → (v.resultList f.resultTypes.size)[j]? = some r → Value.okWide P W' .any 0 t r) :
    s.post enc P f apart fresh handsOn again W args v W' := by
  have hlt : ∀ p ∈ before, p.block < W.heap.size := fun p hp => hW.lt p hp
  have hold : ∀ p ∈ before, (fun b => decide (b < W.heap.size)) p.block = true := fun p hp => by simpa using hlt p hp
  have hW' := hW
  obtain ⟨p, q, hA, hV, rfl, hfz, hnd⟩ := hW
  rw [hv] at hV
  obtain ⟨rfl, rfl⟩ := trodVars_none hV
  simp only [List.append_nil] at *
  have back : ∀ sp : Nat → Bool, (∀ x ∈ p, sp x.block = true) → DataW.TrodAll enc P W' 0 sp true f.params.toList args.toList (s.fn H ds).args p := by
    intro sp hsp
    rw [hargs]
    exact carryAll (DataW.TrodAll.respare K hz hts hA hsp) fun x hx => sameAt_below hb (hlt x hx)
  have vars : ∀ sp : Nat → Bool, DataW.TrodVars enc P W' sp s.vars (s.fn H ds).vars [] := by
    intro sp
    rw [hv, hvars]
    exact rfl
  refine ⟨ds, [], p, [], p, [], by simpa using hW', by simpa using hres _ _ _, by simpa using back _ hold, by simpa using vars _, World.keptBut_mono (fun x hx => ⟨hx, .inr (.inl (by simpa using hx))⟩) (hb.frame (· ∈ p)), fun _ => ?_⟩
  refine ⟨hok, _, _, ([] ++ p) ++ [], ⟨[] ++ p, [], trodAll_append (by simpa using back _ (fun _ _ => rfl)) (by simpa using hres _ _ _), by simpa using vars _, rfl, ?_, ?_⟩, ?_⟩
  · intro b off hp
    have hin : MemPlace.cell b off ∈ p := by simpa using hp
    rw [hb.frozen (hlt _ hin)]
    exact hfz b off hin
  · intro ha
    simpa using hnd ha
  · intro x hx _
    simpa using hx
end

end Go.Ev

namespace Go.Ev
open Go Go.RowKit Go.Proofs Go.ChangeShapes Go.WideShapes Go.ChangeAt

abbrev FW (W : World) : Nat → Nat → Prop := fun b _ => b < W.heap.size
section
variable {H : Type} {enc : TypeId × Value → H} {W : World} {base : Nat} {sp : Nat → Bool} {hd : Bool} {n : Nat}
theorem cell_lt {b o : Nat} {x : Value} (h : W.cell? (at_ b o) = some x) : b < W.heap.size := by
  unfold World.cell? at h
  cases e : W.heap[b]? with
  | none => simp [e] at h
  | some x => exact (Array.getElem?_eq_some_iff.1 e).1

theorem trod3 {cs : List Value} {x : DataW H × List MemPlace} (h : DataW.trod enc Try.prog W base sp hd n 3 cs = some x) : ∃ a, cs = [.int .i64 a] := by
  obtain ⟨a, h1, _⟩ := DataW.trod_int und3 h
  exact ⟨a, h1⟩
theorem trod33 {cs : List Value} {x : DataW H × List MemPlace} (h : DataW.trod enc Try.prog W base sp hd n 33 cs = some x) : ∃ a, cs = [.int .i64 a] := by
  obtain ⟨a, h1, _⟩ := DataW.trod_int (k := .i64) (by kernel_rfl) h
  exact ⟨a, h1⟩
theorem trod4 {cs : List Value} {x : DataW H × List MemPlace} (h : DataW.trod enc Try.prog W base sp hd n 4 cs = some x) : ∃ a, cs = [.bool a] := by
  obtain ⟨a, h1, _⟩ := DataW.trod_bool (by kernel_rfl) h
  exact ⟨a, h1⟩
theorem co3 : Try.prog.cellsOf 3 = 1 := by kernel_rfl
theorem co4 : Try.prog.cellsOf 4 = 1 := by kernel_rfl
theorem co33 : Try.prog.cellsOf 33 = 1 := by kernel_rfl
theorem co47 : Try.prog.cellsOf 47 = 2 := by kernel_rfl
theorem co49 : Try.prog.cellsOf 49 = 4 := by kernel_rfl
theorem co51 : Try.prog.cellsOf 51 = 7 := by kernel_rfl
theorem co23 : Try.prog.cellsOf 23 = 2 := by kernel_rfl

theorem len2 {α : Type} {l : List α} (h : l.length = 2) : ∃ a b, l = [a, b] := by
  match l, h with
  | [a, b], _ => exact ⟨a, b, rfl⟩
theorem len3 {α : Type} {l : List α} (h : l.length = 3) : ∃ a b c, l = [a, b, c] := by
  match l, h with
  | [a, b, c], _ => exact ⟨a, b, c, rfl⟩
theorem len4 {α : Type} {l : List α} (h : l.length = 4) : ∃ a b c d, l = [a, b, c, d] := by
  match l, h with
  | [a, b, c, d], _ => exact ⟨a, b, c, d, rfl⟩
theorem len7 {α : Type} {l : List α} (h : l.length = 7) : ∃ a b c d e f g, l = [a, b, c, d, e, f, g] := by
  match l, h with
  | [a, b, c, d, e, f, g], _ => exact ⟨a, b, c, d, e, f, g, rfl⟩

def Evt.vs (e : Evt) : List Value := [.int .i64 e.th, .int .i64 e.ca, .bool e.re, .int .i64 e.an.errno, .int .i64 e.an.n, .int .i64 e.an.slot, .int .i64 e.an.gen]
theorem trod47 {cs : List Value} {x : DataW H × List MemPlace} (h : DataW.trod enc Try.prog W base sp hd n 47 cs = some x) : ∃ a b, cs = [.int .i64 a, .int .i64 b] := by
  obtain ⟨xs, k, _, _, hl, hxs, hf⟩ := DataW.trod_struct Try.underlying47 h
  rw [co47] at hl
  obtain ⟨v0, v1, rfl⟩ := len2 hl
  obtain ⟨x0, x1, rfl⟩ := len2 (l := xs) hxs
  have g0 := hf 0 _ rfl
  have g1 := hf 1 _ rfl
  simp [co3] at g0 g1
  obtain ⟨a, ha⟩ := trod3 g0
  obtain ⟨b, hb⟩ := trod3 g1
  simp at ha hb
  exact ⟨a, b, by rw [ha, hb]⟩
theorem trod49 {cs : List Value} {x : DataW H × List MemPlace} (h : DataW.trod enc Try.prog W base sp hd n 49 cs = some x) : ∃ a : Ans, cs = [.int .i64 a.errno, .int .i64 a.n, .int .i64 a.slot, .int .i64 a.gen] := by
  obtain ⟨xs, k, _, _, hl, hxs, hf⟩ := DataW.trod_struct Try.underlying49 h
  rw [co49] at hl
  obtain ⟨v0, v1, v2, v3, rfl⟩ := len4 hl
  obtain ⟨x0, x1, x2, rfl⟩ := len3 (l := xs) hxs
  have g0 := hf 0 _ rfl
  have g1 := hf 1 _ rfl
  have g2 := hf 2 _ rfl
  simp [co3, co33, co47] at g0 g1 g2
  obtain ⟨a, ha⟩ := trod33 g0
  obtain ⟨b, hb⟩ := trod3 g1
  obtain ⟨c, d, hc⟩ := trod47 g2
  simp at ha hb hc
  exact ⟨⟨a, b, c, d⟩, by simp [ha, hb, hc]⟩
theorem trod51 {cs : List Value} {x : DataW H × List MemPlace} (h : DataW.trod enc Try.prog W base sp hd n 51 cs = some x) : ∃ e : Evt, cs = e.vs := by
  obtain ⟨xs, k, _, _, hl, hxs, hf⟩ := DataW.trod_struct Try.underlying51 h
  rw [co51] at hl
  obtain ⟨v0, v1, v2, v3, v4, v5, v6, rfl⟩ := len7 hl
  obtain ⟨x0, x1, x2, x3, rfl⟩ := len4 (l := xs) hxs
  have g0 := hf 0 _ rfl
  have g1 := hf 1 _ rfl
  have g2 := hf 2 _ rfl
  have g3 := hf 3 _ rfl
  simp [co3, co4, co49] at g0 g1 g2 g3
  obtain ⟨a, ha⟩ := trod3 g0
  obtain ⟨b, hb⟩ := trod3 g1
  obtain ⟨c, hc⟩ := trod4 g2
  obtain ⟨d, hd⟩ := trod49 g3
  simp at ha hb hc hd
  exact ⟨⟨a, b, c, d⟩, by simp [Evt.vs, ha, hb, hc, hd]⟩
theorem trod23 {cs : List Value} {x : DataW H × List MemPlace} (h : DataW.trod enc Try.prog W base sp hd n 23 cs = some x) : ∃ c : Int × Int, cs = [.int .i64 c.1, .int .i64 c.2] := by
  obtain ⟨xs, k, _, _, hl, hxs, hf⟩ := DataW.trod_array Try.underlying23 h
  rw [co23] at hl
  obtain ⟨v0, v1, rfl⟩ := len2 hl
  obtain ⟨x0, x1, rfl⟩ := len2 hxs
  have g0 := hf 0 (by omega)
  have g1 := hf 1 (by omega)
  simp [co3] at g0 g1
  obtain ⟨a, ha⟩ := trod3 g0
  obtain ⟨b, hb⟩ := trod3 g1
  simp at ha hb
  exact ⟨(a, b), by rw [ha, hb]⟩

set_option maxRecDepth 100000 in
/-- a slice of rows of w cells -/
theorem rp_slice {α : Type} [Inst : Inhabited α] {t e w : Nat} {f : α → List Value} {g : α → List DV} (ht : Try.prog.underlying t = some (.slice e)) (hc : Try.prog.cellsOf e = w)
    (hfe : ∀ {n : Nat} {cs : List Value} {x : DataW H × List MemPlace}, DataW.trod enc Try.prog W 0 sp hd n e cs = some x → ∃ a, cs = f a)
    (hlen : ∀ a, (f a).length = w) (hglen : ∀ a, (g a).length = w) (hfg : ∀ a (j : Nat) x y, (f a)[j]? = some x → (g a)[j]? = some y → y = .v x ∧ one x = true)
    {v : Value} {d : DataW H} {p : List MemPlace} (hok : Value.okWide Try.prog W .any base t v) (h : DataW.Trod enc Try.prog W 0 sp hd t v d p) :
    v = .slice none 0 0 ∨ ∃ l : List α, RP (FW W) W (.one (.sl w false (l.map g))) v := by
  obtain ⟨n, h⟩ := h
  rcases Go.Deep.open_slice ht h with ⟨h1, h2⟩ | ⟨a, len, cap, m, k, D, Pl, h1, hb, hl, hm, hmm, h2, hx⟩
  · left
    unfold Value.okWide at hok
    rw [ht] at hok
    simp only [Cell.okWide, ht] at hok
    cases v <;> simp [Cell.ok, ht] at hok <;> simpa [Value.cells] using h1
  · right
    have hv : v = .slice (some a) len cap := by
      unfold Value.okWide at hok
      rw [ht] at hok
      simp only [Cell.okWide, ht] at hok
      cases v <;> simp [Cell.ok, ht] at hok <;> simpa [Value.cells] using h1
    subst hv
    have hspot : a.spot = none := by
      unfold Value.okWide at hok
      rw [ht] at hok
      simp only [Cell.okWide, ht, Cell.ok] at hok
      exact hok.2.2.2.1
    obtain ⟨b, o, s⟩ := a
    simp only at hspot
    subst hspot
    have hlm : len ≤ m := by rw [hmm]; split <;> omega
    obtain ⟨V, hV⟩ := Go.Deep.choose_lt (α := α) (p := fun i u => W.cells? 0 (Addr.add ⟨b, o, none⟩ (i * w)) w = some (f u)) (fun i hi => by
      obtain ⟨cs', q1, q2⟩ := hx i hi
      rw [hc] at q1
      obtain ⟨u, hu⟩ := hfe q2
      exact ⟨u, by rw [q1, hu]⟩)
    refine ⟨(List.range len).map V, .one _ _ ?_⟩
    have hrow : ∀ (i : Nat) (r : List DV), (((List.range len).map V).map g)[i]? = some r → i < len ∧ r = g (V i) := by
      intro i r hr
      by_cases hi : i < len
      · simp [hi] at hr
        exact ⟨hi, hr.symm⟩
      · simp [hi] at hr
    have hcell : ∀ i j : Nat, i < len → j < w → W.cell? (at_ b (o + i * w + j)) = some (((f (V i))[j]?).getD undef) := by
      intro i j hi hj
      obtain ⟨_, q2, q3⟩ := World.cells?_some (hV i (by omega))
      have := q3 j hj
      have hjl : j < (f (V i)).length := by rw [hlen]; exact hj
      rw [List.getElem?_eq_getElem hjl] at this ⊢
      rw [Option.getD_some, ← this]
      congr 1
      simp only [Addr.add, at_]
      split <;> split <;> simp_all <;> omega
    refine .sl w false _ b o len cap (fun i j => ((f (V i))[j]?).getD undef) (by simp) hl (fun h => by cases h) (fun i r hr => ?_) (fun i j r hr hj => ?_) (fun i j r y hr hy => ?_)
    · obtain ⟨_, rfl⟩ := hrow i r hr
      exact hglen _
    · obtain ⟨hi, rfl⟩ := hrow i r hr
      have := hcell i j hi hj
      exact ⟨this, cell_lt this⟩
    · obtain ⟨hi, rfl⟩ := hrow i r hr
      have hjw : j < w := by rw [← hglen (V i)]; exact (List.getElem?_eq_some_iff.1 hy).1
      have hjl : j < (f (V i)).length := by rw [hlen]; exact hjw
      have hx := List.getElem?_eq_getElem hjl
      obtain ⟨rfl, h1⟩ := hfg (V i) j _ y hx hy
      simp only [hx, Option.getD_some]
      exact .v _ h1

set_option maxRecDepth 100000 in
theorem rp_evts {v : Value} {d : DataW H} {p : List MemPlace} (hok : Value.okWide Try.prog W .any base 22 v) (h : DataW.Trod enc Try.prog W 0 sp hd 22 v d p) :
    ∃ (pv : PV) (l : List Evt), RP (FW W) W pv v ∧ evtsOf pv = some l := by
  rcases rp_slice (α := Evt) (w := 7) (f := Evt.vs) (g := Evt.row) (Inst := ⟨⟨0, 0, false, ans0⟩⟩) Try.underlying22 co51 trod51 (fun _ => rfl) (fun _ => rfl) (fun a j x y hx hy => by
    match j, hx, hy with
    | 0, hx, hy => simp [Evt.vs] at hx; simp [Evt.row, di, db] at hy; subst hx; subst hy; exact ⟨rfl, rfl⟩
    | 1, hx, hy => simp [Evt.vs] at hx; simp [Evt.row, di, db] at hy; subst hx; subst hy; exact ⟨rfl, rfl⟩
    | 2, hx, hy => simp [Evt.vs] at hx; simp [Evt.row, di, db] at hy; subst hx; subst hy; exact ⟨rfl, rfl⟩
    | 3, hx, hy => simp [Evt.vs] at hx; simp [Evt.row, di, db] at hy; subst hx; subst hy; exact ⟨rfl, rfl⟩
    | 4, hx, hy => simp [Evt.vs] at hx; simp [Evt.row, di, db] at hy; subst hx; subst hy; exact ⟨rfl, rfl⟩
    | 5, hx, hy => simp [Evt.vs] at hx; simp [Evt.row, di, db] at hy; subst hx; subst hy; exact ⟨rfl, rfl⟩
    | 6, hx, hy => simp [Evt.vs] at hx; simp [Evt.row, di, db] at hy; subst hx; subst hy; exact ⟨rfl, rfl⟩
    | j + 7, hx, hy => simp [Evt.vs] at hx) hok h with rfl | ⟨l, hl⟩
  · exact ⟨nilPV, [], .one _ _ (.v _ rfl), rfl⟩
  · exact ⟨_, l, hl, evtsOf_sl _ l⟩
set_option maxRecDepth 100000 in
theorem rp_calls {v : Value} {d : DataW H} {p : List MemPlace} (hok : Value.okWide Try.prog W .any base 32 v) (h : DataW.Trod enc Try.prog W 0 sp hd 32 v d p) :
    ∃ (pv : PV) (l : List (Int × Int)), RP (FW W) W pv v ∧ callsOf pv = some l := by
  rcases rp_slice (α := Int × Int) (w := 2) (f := fun c => [.int .i64 c.1, .int .i64 c.2]) (g := fun c => [.v (.int .i64 c.1), .v (.int .i64 c.2)]) Try.underlying32 co23 trod23 (fun _ => rfl) (fun _ => rfl) (fun a j x y hx hy => by
    match j, hx, hy with
    | 0, hx, hy => simp at hx hy; subst hx; subst hy; exact ⟨rfl, rfl⟩
    | 1, hx, hy => simp at hx hy; subst hx; subst hy; exact ⟨rfl, rfl⟩
    | j + 2, hx, hy => simp at hx) hok h with rfl | ⟨l, hl⟩
  · exact ⟨nilPV, [], .one _ _ (.v _ rfl), rfl⟩
  · exact ⟨_, l, hl, callsOf_sl _ l⟩
set_option maxRecDepth 100000 in
theorem rp_pair {v : Value} {d : DataW H} {p : List MemPlace} (hok : Value.okWide Try.prog W .any base 23 v) (h : DataW.Trod enc Try.prog W 0 sp hd 23 v d p) :
    ∃ (pv : PV) (c : Int × Int), RP (FW W) W pv v ∧ pairOf pv = some c := by
  obtain ⟨n, h⟩ := h
  unfold Value.okWide at hok
  rw [Try.underlying23] at hok
  obtain ⟨cs, rfl, _, _⟩ := hok
  obtain ⟨c, hc⟩ := trod23 h
  refine ⟨pair c, c, ?_, rfl⟩
  have : cs = [Value.int .i64 c.1, .int .i64 c.2].toArray := by rw [← Array.toList_inj]; exact hc
  subst this
  exact .agg _ _ rfl fun i y x hy hx => by
    match i, hy, hx with
    | 0, hy, hx => simp at hy hx; subst hy; subst hx; exact .v _ rfl
    | 1, hy, hx => simp at hy hx; subst hy; subst hx; exact .v _ rfl
    | j + 2, hy, hx => simp at hy
end

end Go.Ev
