/- What the proof of this claim needs: part MK. No conditions. -/
import Derived.Test.YtgpdnahmgacffaaMI
set_option linter.unusedVariables false
set_option linter.unusedSimpArgs false

namespace Go.Ev
open Go

theorem rf1_true {l : List Evt} : ∀ (order pre : List (Int × Int)), rf1 l pre order = true → (∀ c ∈ order, 0 ≤ placeI c false l) ∧ (pre.Nodup → (pre ++ order).Nodup)
  | [], pre, _ => ⟨by simp, fun h => by simpa using h⟩
  | c :: r, pre, h => by
    unfold rf1 at h
    split at h
    · cases h
    · rename_i h0
      split at h
      · cases h
      · rename_i hc
        obtain ⟨h1, h2⟩ := rf1_true r (pre ++ [c]) h
        refine ⟨fun d hd => ?_, fun hn => ?_⟩
        · rcases List.mem_cons.1 hd with rfl | hd
          · omega
          · exact h1 d hd
        · have hni : c ∉ pre := fun hm => hc (List.contains_iff_mem.2 hm)
          have := h2 (by rw [List.nodup_append]; exact ⟨hn, by simp, fun a ha b hb e => by simp at hb; subst hb; exact hni (by rw [← e]; exact ha)⟩)
          simpa using this
theorem rf3_true {l : List Evt} : ∀ (order pre : List (Int × Int)), rf3 l pre order = true → order.Pairwise (fun d c => refBeforeB l c d = false) ∧ ∀ d ∈ pre, ∀ c ∈ order, refBeforeB l c d = false
  | [], pre, _ => by simp
  | c :: r, pre, h => by
    unfold rf3 at h
    split at h
    · rename_i hi
      obtain ⟨h1, h2⟩ := rf3_true r (pre ++ [c]) h
      refine ⟨List.pairwise_cons.2 ⟨fun d hd => h2 c (by simp) d hd, h1⟩, fun d hd e he => ?_⟩
      rcases List.mem_cons.1 he with rfl | he
      · cases hb : refBeforeB l e d with
        | false => rfl
        | true =>
          have := (rf3i_iff l e pre).2 ⟨d, hd, hb⟩
          rw [hi] at this; cases this
      · exact h2 d (by simp [hd]) e he
    · cases h
section
variable {l : List Evt} (h : rightB l = true)
include h
theorem fits_inv {order : List (Int × Int)} (hf : fitsB l order = 0) : (∀ c ∈ order, 0 ≤ placeI c false l) ∧ order.Nodup ∧ (∀ s ∈ spansI l, 0 ≤ s.2.2.2 → (s.1, s.2.1) ∈ order) ∧ order.Pairwise (fun d c => beforeB l c d = false) := by
  rw [fits_eq] at hf
  unfold refFitsB at hf
  have hr := h
  rw [right_eq] at hr
  rw [hr] at hf
  simp only [Bool.true_eq_false, if_false] at hf
  split at hf
  · omega
  · rename_i e1
    split at hf
    · omega
    · rename_i e2
      split at hf
      · omega
      · rename_i e3
        simp only [Bool.not_eq_false] at e1 e2 e3
        obtain ⟨a1, a2⟩ := rf1_true order [] e1
        obtain ⟨b1, _⟩ := rf3_true order [] e3
        refine ⟨a1, by simpa using a2 (by simp), fun s hs h0 => ?_, by simpa [before_eq] using b1⟩
        rw [spans_eq] at hs
        cases e : order.contains (s.1, s.2.1) with
        | true => exact List.contains_iff_mem.1 e
        | false =>
          have := (rf2_iff order (refSpansI l)).2 ⟨s, hs, h0, e⟩
          rw [e2] at this; cases this
theorem fits_val {order : List (Int × Int)} (h1 : ∀ c ∈ order, 0 ≤ placeI c false l) (hn : order.Nodup) (h2 : ∀ s ∈ spansI l, 0 ≤ s.2.2.2 → (s.1, s.2.1) ∈ order) : fitsB l order = if rf3 l [] order = false then 9 else 0 := by
  rw [fits_eq]
  unfold refFitsB
  have hr := h
  rw [right_eq] at hr
  rw [hr, rf1_of order [] h1 (by simpa using hn)]
  have e2 : rf2 order (refSpansI l) = true := by
    cases e : rf2 order (refSpansI l) with
    | true => rfl
    | false =>
      obtain ⟨s, hs, h4, h5⟩ := (rf2_iff order _).1 e
      rw [← spans_eq] at hs
      have := h2 s hs h4
      rw [← List.contains_iff_mem, h5] at this
      cases this
  rw [e2]
  simp
/-- two that stand side by side change places -/
theorem fits_swap {A B : List (Int × Int)} {x y : Int × Int} (hf : fitsB l (A ++ x :: y :: B) = 0) : fitsB l (A ++ y :: x :: B) = if beforeB l x y then 9 else 0 := by
  obtain ⟨h1, hn, h2, h3⟩ := fits_inv h hf
  have hp : (A ++ x :: y :: B).Perm (A ++ y :: x :: B) := List.Perm.append_left A (List.Perm.swap y x B)
  rw [fits_val h (fun c hc => h1 c (hp.mem_iff.2 hc)) (hp.nodup_iff.1 hn) (fun s hs h0 => hp.mem_iff.1 (h2 s hs h0))]
  have key : rf3 l [] (A ++ y :: x :: B) = true ↔ beforeB l x y = false := by
    constructor
    · intro hr
      obtain ⟨b1, _⟩ := rf3_true _ [] hr
      rw [List.pairwise_append] at b1
      have := (List.pairwise_cons.1 b1.2.1).1 x (by simp)
      rw [before_eq]; exact this
    · intro hb
      refine rf3_of _ [] ?_
      simp only [List.nil_append]
      rw [List.pairwise_append] at h3 ⊢
      obtain ⟨p1, p2, p3⟩ := h3
      obtain ⟨p4, p5⟩ := List.pairwise_cons.1 p2
      obtain ⟨p6, p7⟩ := List.pairwise_cons.1 p5
      have eb : ∀ a b, refBeforeB l a b = beforeB l a b := fun a b => (before_eq l a b).symm
      simp only [eb]
      refine ⟨p1, List.pairwise_cons.2 ⟨fun c hc => ?_, List.pairwise_cons.2 ⟨fun c hc => p4 c (by simp [hc]), p7⟩⟩, fun a ha b hb' => p3 a ha b ?_⟩
      · rcases List.mem_cons.1 hc with rfl | hc
        · exact hb
        · exact p6 c hc
      · rcases List.mem_cons.1 hb' with rfl | hb'
        · simp
        · rcases List.mem_cons.1 hb' with rfl | hb'
          · simp
          · simp [hb']
  cases hb : beforeB l x y with
  | true =>
    have : rf3 l [] (A ++ y :: x :: B) = false := by
      cases e : rf3 l [] (A ++ y :: x :: B) with
      | false => rfl
      | true => have := key.1 e; rw [hb] at this; cases this
    rw [this]; rfl
  | false => rw [key.2 hb]; rfl
end
theorem every_fits (m : MapE) (L : List (Int × Int)) : ∀ (n : Nat) (o x : List (Int × Int)), x ∈ everyL m L n o → fitsI m x = 0
  | 0, o, x, hx => by
    simp only [everyL, selfL] at hx
    split at hx
    · rename_i h; simp at hx; subst hx; exact h
    · simp at hx
  | n + 1, o, x, hx => by
    simp only [everyL] at hx
    rcases List.mem_append.1 hx with hx | hx
    · simp only [selfL] at hx
      split at hx
      · rename_i h; simp at hx; subst hx; exact h
      · simp at hx
    · obtain ⟨c, _, hc⟩ := List.mem_flatMap.1 hx
      unfold tryC at hc
      split at hc
      · simp at hc
      · split at hc
        · simp at hc
        · exact every_fits m L n _ x hc
theorem ord_fits {l : List Evt} (h : rightB l = true) {o : List (Int × Int)} (ho : o ∈ ordL l) : fitsB l o = 0 := by
  unfold fitsB
  rw [h, if_pos rfl]
  exact every_fits _ _ _ _ _ ho
theorem mem_insL (a : Int × Int) : ∀ (rp : List (Int × Int)) (c : Int × Int) (d : List (Int × Int)), a ∈ insL rp c d ↔ a ∈ rp ∨ a = c ∨ a ∈ d
  | [], c, d => by simp [insL]
  | x :: rp, c, d => by
    unfold insL
    split
    · rw [mem_insL a rp c (x :: d)]
      simp only [List.mem_cons]
      constructor
      · rintro (h | h | h | h)
        · exact .inl (.inr h)
        · exact .inr (.inl h)
        · exact .inl (.inl h)
        · exact .inr (.inr h)
      · rintro ((h | h) | h | h)
        · exact .inr (.inr (.inl h))
        · exact .inl h
        · exact .inr (.inl h)
        · exact .inr (.inr (.inr h))
    · simp only [List.mem_append, List.mem_reverse, List.mem_cons]
theorem mem_sortL (a : Int × Int) : ∀ (r p : List (Int × Int)), a ∈ sortL p r ↔ a ∈ p ∨ a ∈ r
  | [], p => by simp [sortL]
  | c :: r, p => by
    unfold sortL
    rw [mem_sortL a r, mem_insL]
    simp only [List.mem_reverse, List.mem_cons, List.not_mem_nil, or_false]
    constructor
    · rintro ((h | h) | h)
      · exact .inl h
      · exact .inr (.inl h)
      · exact .inr (.inr h)
    · rintro (h | h | h)
      · exact .inl (.inl h)
      · exact .inl (.inr h)
      · exact .inr h
/-- one that began before all others -/
theorem least_of (f : Int × Int → Int) : ∀ (R : List (Int × Int)), R ≠ [] → ∃ c ∈ R, ∀ d ∈ R, f c ≤ f d
  | [], h => absurd rfl h
  | [c], _ => ⟨c, by simp, by simp⟩
  | c :: d :: r, _ => by
    obtain ⟨e, h1, h2⟩ := least_of f (d :: r) (by simp)
    by_cases hc : f c ≤ f e
    · exact ⟨c, by simp, fun x hx => by
        rcases List.mem_cons.1 hx with rfl | hx
        · omega
        · have := h2 x hx; omega⟩
    · exact ⟨e, List.mem_cons_of_mem _ h1, fun x hx => by
        rcases List.mem_cons.1 hx with rfl | hx
        · omega
        · exact h2 x hx⟩
theorem ahead_before {l : List Evt} (h : rightB l = true) {x c : Int × Int} (hx : 0 ≤ placeI x false l) (hc : 0 ≤ placeI c false l) :
    aheadI ((getKV x (metL 0 l [])).getD (0, 0)) ((getKV c (metL 0 l [])).getD (0, 0)) = beforeB l x c := by
  have hm := (met_of h).1
  unfold beforeB
  rw [h, (get_some hm x).2 hx, (get_some hm c).2 hc]
  simp
theorem every_ne {l : List Evt} (h : rightB l = true) {L : List (Int × Int)} (hL : ∀ c, c ∈ L ↔ c ∈ begI l) : ∀ (n : Nat) (o : List (Int × Int)), o.Nodup → (∀ x ∈ o, x ∈ L) → L.length ≤ o.length + n →
    o.Pairwise (fun d c => beforeB l c d = false) → (∀ c ∈ o, ∀ x ∈ L, beforeB l x c = true → x ∈ o) → everyL (metL 0 l []) L n o ≠ [] := by
  intro n
  induction n with
  | zero =>
    intro o hn hs hlen hp hd
    have hall : ∀ c ∈ L, c ∈ o := fun c hc => by
      cases e : decide (c ∈ o) with
      | true => exact of_decide_eq_true e
      | false =>
        have hni := of_decide_eq_false e
        have := len_of_sub (c :: o) L (List.nodup_cons.2 ⟨hni, hn⟩) (fun x hx => by
          rcases List.mem_cons.1 hx with rfl | hx
          · exact hc
          · exact hs x hx)
        simp at this
        omega
    have hf : fitsB l o = 0 := fits0 h (fun c hc => (mem_beg h c).1 ((hL c).1 (hs c hc))) hn (fun s hs' _ => hall _ ((hL _).2 (List.mem_map.2 ⟨s, hs', rfl⟩))) hp
    have hf' : fitsI (metL 0 l []) o = 0 := by unfold fitsB at hf; rw [h, if_pos rfl] at hf; exact hf
    simp only [everyL, selfL, hf', if_true]
    simp
  | succ n ih =>
    intro o hn hs hlen hp hd
    by_cases hR : (L.filter fun c => !o.contains c) = []
    · have hall : ∀ c ∈ L, c ∈ o := fun c hc => by
        cases e : o.contains c with
        | true => exact List.contains_iff_mem.1 e
        | false =>
          have : c ∈ L.filter fun c => !o.contains c := by rw [List.mem_filter]; exact ⟨hc, by rw [e]; rfl⟩
          rw [hR] at this; simp at this
      have hf : fitsB l o = 0 := fits0 h (fun c hc => (mem_beg h c).1 ((hL c).1 (hs c hc))) hn (fun s hs' _ => hall _ ((hL _).2 (List.mem_map.2 ⟨s, hs', rfl⟩))) hp
      have hf' : fitsI (metL 0 l []) o = 0 := by unfold fitsB at hf; rw [h, if_pos rfl] at hf; exact hf
      simp only [everyL, selfL, hf', if_true]
      simp
    · obtain ⟨c, hc, hmin⟩ := least_of (fun c => placeI c false l) _ hR
      rw [List.mem_filter] at hc
      obtain ⟨hcL, hco⟩ := hc
      have hco' : o.contains c = false := by simpa using hco
      have hni : c ∉ o := fun hm => by rw [List.contains_iff_mem.2 hm] at hco'; cases hco'
      have hcb := (mem_beg h c).1 ((hL c).1 hcL)
      have hfree : ∀ x ∈ L, x ∉ o → beforeB l x c = false := fun x hx hxo => by
        refine nbf h fun hh => ?_
        have hxb := (mem_beg h x).1 ((hL x).1 hx)
        have h1 := end_after h x hh.1 hxb
        have h2 := hmin x (by
          rw [List.mem_filter]
          refine ⟨hx, ?_⟩
          cases e : o.contains x with
          | false => rfl
          | true => exact absurd (List.contains_iff_mem.1 e) hxo)
        omega
      have hbl : blockedB (metL 0 l []) L o c = false := by
        cases e : blockedB (metL 0 l []) L o c with
        | false => rfl
        | true =>
          unfold blockedB at e
          rw [List.any_eq_true] at e
          obtain ⟨x, hx, hxx⟩ := e
          simp only [Bool.and_eq_true, Bool.not_eq_true'] at hxx
          have hxo : x ∉ o := fun hm => by rw [List.contains_iff_mem.2 hm] at hxx; cases hxx.1
          rw [ahead_before h ((mem_beg h x).1 ((hL x).1 hx)) hcb, hfree x hx hxo] at hxx
          cases hxx.2
      have hnext := ih (o ++ [c]) (by rw [List.nodup_append]; exact ⟨hn, by simp, fun a ha b hb e => by simp at hb; subst hb; exact hni (by rw [← e]; exact ha)⟩)
        (fun x hx => by rcases List.mem_append.1 hx with hx | hx; exact hs x hx; simp at hx; subst hx; exact hcL) (by simp; omega)
        (by
          rw [List.pairwise_append]
          refine ⟨hp, by simp, fun d hdo e he => ?_⟩
          simp at he; subst he
          cases hb : beforeB l e d with
          | false => rfl
          | true => exact absurd (hd d hdo e hcL hb) hni)
        (fun e he x hx hb => by
          rcases List.mem_append.1 he with he | he
          · exact List.mem_append.2 (.inl (hd e he x hx hb))
          · simp at he; subst he
            by_cases hxo : x ∈ o
            · exact List.mem_append.2 (.inl hxo)
            · rw [hfree x hx hxo] at hb; cases hb)
      intro hnil
      simp only [everyL] at hnil
      have h2 := (List.append_eq_nil_iff.1 hnil).2
      rw [List.flatMap_eq_nil_iff] at h2
      have := h2 c hcL
      simp only [tryC, hco', hbl] at this
      exact hnext this
theorem ord_ne {l : List Evt} (h : rightB l = true) (h7 : (metL 0 l []).length ≤ 7) : ordL l ≠ [] := by
  unfold ordL
  have := met_beg h
  exact every_ne h (fun c => by rw [mem_sortL]; simp) 7 [] List.nodup_nil (by simp) (by rw [sortL_len]; simp; omega) (by simp) (by simp)

end Go.Ev

namespace Go.Ev
open Go Go.RowKit Go.Proofs

/-! ### less -/
def lessB (a b : Int × Int) : Bool := decide (a.1 < b.1) || (decide (a.1 = b.1) && decide (a.2 < b.2))
theorem less_cmp (a b : Int × Int) : lessB a b = decide (cmp2 a b < 0) := by
  unfold lessB cmp2 orI orI cmpI
  rcases Int.lt_trichotomy a.1 b.1 with h | h | h
  · simp [h]
  · rcases Int.lt_trichotomy a.2 b.2 with k | k | k
    · simp [h, k, orI]
    · simp [h, k, orI]
    · have : ¬ a.2 < b.2 := by omega
      simp [h, k, this, orI]
  · have h1 : ¬ a.1 < b.1 := by omega
    have h2 : ¬ a.1 = b.1 := by omega
    simp [h, h1, h2]
def lessSpec : Spec
  | [p, q] => match pairOf p, pairOf q with
    | some a, some b => some [pbool (lessB a b)]
    | _, _ => none
  | _ => none
theorem less_y (a b : Int × Int) : symV C10 noO 60 54 [pair a, pair b] [(site 54 9, .b true)] = some ([pbool true], [], [decide (a.1 < b.1) = true]) := by kernel_rfl
theorem less_n (a b : Int × Int) : symV C10 noO 60 54 [pair a, pair b] [(site 54 9, .b false), (site 54 15, .b false)] = some ([pbool false], [], [decide (a.1 < b.1) = false, (a.1 == b.1) = false]) := by kernel_rfl
theorem less_e (a b : Int × Int) (t : Bool) : symV C10 noO 60 54 [pair a, pair b] [(site 54 9, .b false), (site 54 15, .b true), (site 54 21, .b t)] = some ([pbool t], [], [decide (a.1 < b.1) = false, (a.1 == b.1) = true, decide (a.2 < b.2) = t]) := by kernel_rfl
theorem less_sat : Sat C10 54 lessSpec := by
  refine sat_of_ev (O := noO) hP10 (fun _ _ h => h.elim) hm0 fun ps rs hs => ?_
  unfold lessSpec at hs
  split at hs
  · split at hs
    · rename_i a b ha hb
      simp only [Option.some.injEq] at hs
      subst hs
      rw [pairOf_eq ha, pairOf_eq hb]
      unfold lessB
      by_cases h1 : a.1 < b.1
      · rw [decide_eq_true h1]
        exact symV_ev (less_y a b) (AllP_cons (decide_eq_true h1) AllP_nil)
      · rw [decide_eq_false h1]
        by_cases h2 : a.1 = b.1
        · rw [decide_eq_true h2]
          exact symV_ev (less_e a b (decide (a.2 < b.2))) (AllP_cons (decide_eq_false h1) (AllP_cons (by simp [h2]) (AllP_cons rfl AllP_nil)))
        · rw [decide_eq_false h2]
          exact symV_ev (less_n a b) (AllP_cons (decide_eq_false h1) (AllP_cons (by simpa using h2) AllP_nil))
    · cases hs
  · cases hs

/-! ### Calls -/
def s43 (x y : DV) (i : Int) : St := { σ := slots 26 [(0, .d x), (1, .d y), (5, vi i)], h := {} }
def o43 : Bool → X × St
  | true => (.exit 0, { σ := slots 26 [], h := {} })
  | false => (.ret, { σ := slots 26 [(4, vb false)], h := {} })
section
variable (fa fb : Bool) (ra rb : List (List DV)) (i n m : Int)
theorem cl_n (h1 : (ra.length : Int) = n) (h2 : decide (i < n) = false) : Ev C10 noO (.code 43 false (loopOf Try.prog 43 0) (s43 (.sl 2 fa ra) (.sl 2 fb rb) i)) (.code (.exit 0) { σ := slots 26 [], h := {} }) :=
  symM_ev (n := 60) (sc := [(site 43 13, Dec.int n), (site 43 14, Dec.b false)]) (keep := []) (sc' := []) (by kernel_rfl) (AllP_cons h1 (AllP_cons h2 AllP_nil))
theorem cl_d (a b : Int × Int) (h1 : (ra.length : Int) = n) (h2 : decide (i < n) = true) (h3 : 0 ≤ i ∧ ra[i.toNat]? = some (rowC a)) (h4 : 0 ≤ i ∧ rb[i.toNat]? = some (rowC b)) (h5 : still Try.prog (Op.equal 23 (.agg #[.int .i64 a.1, .int .i64 a.2]) (.agg #[.int .i64 b.1, .int .i64 b.2])) = some false) :
    Ev C10 noO (.code 43 false (loopOf Try.prog 43 0) (s43 (.sl 2 fa ra) (.sl 2 fb rb) i)) (.code .ret { σ := slots 26 [(4, vb false)], h := {} }) :=
  symM_ev (n := 60) (sc := [(site 43 13, Dec.int n), (site 43 14, Dec.b true), (site 43 19, Dec.row (rowC a)), (site 43 23, Dec.row (rowC b)), (site 43 25, Dec.eqv false)]) (keep := [4]) (sc' := []) (by kernel_rfl) (AllP_cons h1 (AllP_cons h2 (AllP_cons h3 (AllP_cons h4 (AllP_cons h5 AllP_nil)))))
theorem cl_e (a b : Int × Int) (i1 : Int) (x : X) (s : St) (h1 : (ra.length : Int) = n) (h2 : decide (i < n) = true) (h3 : 0 ≤ i ∧ ra[i.toNat]? = some (rowC a)) (h4 : 0 ≤ i ∧ rb[i.toNat]? = some (rowC b)) (h5 : still Try.prog (Op.equal 23 (.agg #[.int .i64 a.1, .int .i64 a.2]) (.agg #[.int .i64 b.1, .int .i64 b.2])) = some true) (h6 : wr64 (i + 1) = i1)
    (h7 : Ev C10 noO (.code 43 false (loopOf Try.prog 43 0) (s43 (.sl 2 fa ra) (.sl 2 fb rb) i1)) (.code x s)) : Ev C10 noO (.code 43 false (loopOf Try.prog 43 0) (s43 (.sl 2 fa ra) (.sl 2 fb rb) i)) (.code x s) :=
  sym_ev 60 _ [(site 43 13, Dec.int n), (site 43 14, Dec.b true), (site 43 19, Dec.row (rowC a)), (site 43 23, Dec.row (rowC b)), (site 43 25, Dec.eqv true), (site 43 16, Dec.int i1), (site 43 8001, Dec.loop [0, 1, 5] x s)] _ [] _ (by kernel_rfl) (AllP_cons h1 (AllP_cons h2 (AllP_cons h3 (AllP_cons h4 (AllP_cons h5 (AllP_cons h6 (AllP_cons h7 AllP_nil)))))))
theorem cc_ne (h1 : (ra.length : Int) = n) (h2 : (rb.length : Int) = m) (h3 : (!(n == m)) = true) : Ev C10 noO (.call 43 [.d (.sl 2 fa ra), .d (.sl 2 fb rb)] {}) (.val (vb false) {}) :=
  sym_ev 60 _ [(site 43 7, Dec.int n), (site 43 9, Dec.int m), (site 43 10, Dec.b true)] _ [] _ (by kernel_rfl) (AllP_cons h1 (AllP_cons h2 (AllP_cons h3 AllP_nil)))
theorem cc_e (h1 : (ra.length : Int) = n) (h2 : (rb.length : Int) = m) (h3 : (!(n == m)) = false) (h4 : Ev C10 noO (.code 43 false (loopOf Try.prog 43 0) (s43 (.sl 2 fa ra) (.sl 2 fb rb) 0)) (.code (.exit 0) { σ := slots 26 [], h := {} })) :
    Ev C10 noO (.call 43 [.d (.sl 2 fa ra), .d (.sl 2 fb rb)] {}) (.val (vb true) {}) :=
  sym_ev 60 _ [(site 43 7, Dec.int n), (site 43 9, Dec.int m), (site 43 10, Dec.b false), (site 43 8001, Dec.loop [0, 1, 5] (.exit 0) { σ := slots 26 [], h := {} })] _ [] _ (by kernel_rfl) (AllP_cons h1 (AllP_cons h2 (AllP_cons h3 (AllP_cons h4 AllP_nil))))
theorem cc_r (h1 : (ra.length : Int) = n) (h2 : (rb.length : Int) = m) (h3 : (!(n == m)) = false) (h4 : Ev C10 noO (.code 43 false (loopOf Try.prog 43 0) (s43 (.sl 2 fa ra) (.sl 2 fb rb) 0)) (.code .ret { σ := slots 26 [(4, vb false)], h := {} })) :
    Ev C10 noO (.call 43 [.d (.sl 2 fa ra), .d (.sl 2 fb rb)] {}) (.val (vb false) {}) :=
  sym_ev 60 _ [(site 43 7, Dec.int n), (site 43 9, Dec.int m), (site 43 10, Dec.b false), (site 43 8001, Dec.loop [0, 1, 5] .ret { σ := slots 26 [(4, vb false)], h := {} })] _ [] _ (by kernel_rfl) (AllP_cons h1 (AllP_cons h2 (AllP_cons h3 (AllP_cons h4 AllP_nil))))
theorem cc_nn : Ev C10 noO (.call 43 [.d (.v (.slice none 0 0)), .d (.v (.slice none 0 0))] {}) (.val (vb true) {}) := sym_ev 60 _ [] _ [] _ (by kernel_rfl) AllP_nil
theorem cc_ns (t : Bool) (h1 : (rb.length : Int) = m) (h2 : (!((0 : Int) == m)) = true) : Ev C10 noO (.call 43 [.d (.v (.slice none 0 0)), .d (.sl 2 fb rb)] {}) (.val (vb false) {}) :=
  sym_ev 60 _ [(site 43 9, Dec.int m), (site 43 10, Dec.b true)] _ [] _ (by kernel_rfl) (AllP_cons h1 (AllP_cons h2 AllP_nil))
theorem cc_nsz (h1 : (rb.length : Int) = m) (h2 : (!((0 : Int) == m)) = false) : Ev C10 noO (.call 43 [.d (.v (.slice none 0 0)), .d (.sl 2 fb rb)] {}) (.val (vb true) {}) :=
  sym_ev 60 _ [(site 43 9, Dec.int m), (site 43 10, Dec.b false)] _ [] _ (by kernel_rfl) (AllP_cons h1 (AllP_cons h2 AllP_nil))
theorem cc_sn (h1 : (ra.length : Int) = n) (h2 : (!(n == (0 : Int))) = true) : Ev C10 noO (.call 43 [.d (.sl 2 fa ra), .d (.v (.slice none 0 0))] {}) (.val (vb false) {}) :=
  sym_ev 60 _ [(site 43 7, Dec.int n), (site 43 10, Dec.b true)] _ [] _ (by kernel_rfl) (AllP_cons h1 (AllP_cons h2 AllP_nil))
theorem cc_snz (h1 : (ra.length : Int) = n) (h2 : (!(n == (0 : Int))) = false) (h3 : decide ((0 : Int) < n) = false) : Ev C10 noO (.call 43 [.d (.sl 2 fa ra), .d (.v (.slice none 0 0))] {}) (.val (vb true) {}) :=
  sym_ev 60 _ [(site 43 7, Dec.int n), (site 43 10, Dec.b false), (site 43 13, Dec.int n), (site 43 14, Dec.b false)] _ [] _ (by kernel_rfl) (AllP_cons h1 (AllP_cons h2 (AllP_cons h1 (AllP_cons h3 AllP_nil))))
end
theorem cl_loop (fa fb : Bool) (a b : List (Int × Int)) (hl : a.length = b.length) (hb : a.length < 2 ^ 40) : ∀ (ra rb pa pb : List (Int × Int)), pa ++ ra = a → pb ++ rb = b → pa.length = pb.length →
    Ev C10 noO (.code 43 false (loopOf Try.prog 43 0) (s43 (.sl 2 fa (rowsP a)) (.sl 2 fb (rowsP b)) (pa.length : Nat))) (.code (o43 (decide (ra = rb))).1 (o43 (decide (ra = rb))).2)
  | [], [], pa, pb, ha, hb', hp => cl_n fa fb _ _ _ (a.length : Nat) (by simp [rowsP]) (dge (by subst ha; simp))
  | [], y :: rb, pa, pb, ha, hb', hp => by
    have h1 := congrArg List.length ha
    have h2 := congrArg List.length hb'
    simp at h1 h2; omega
  | x :: ra, [], pa, pb, ha, hb', hp => by
    have h1 := congrArg List.length ha
    have h2 := congrArg List.length hb'
    simp at h1 h2; omega
  | x :: ra, y :: rb, pa, pb, ha, hb', hp => by
    have hlt := pre_lt ha
    have hx := row_at (g := rowC) ha
    have hy := row_at (g := rowC) hb'
    rw [← hp] at hy
    have ih := cl_loop fa fb a b hl hb ra rb (pa ++ [x]) (pb ++ [y]) (pre_snoc ha) (pre_snoc hb') (by simp [hp])
    simp only [len_snoc] at ih
    have hlen : (((rowsP a).length : Nat) : Int) = (a.length : Nat) := by simp [rowsP]
    have he := eq2' x y
    by_cases h : x = y
    · rw [decide_eq_true h] at he
      have e : decide (x :: ra = y :: rb) = decide (ra = rb) := by subst h; simp
      rw [e]
      exact cl_e fa fb _ _ _ (a.length : Nat) x y _ _ _ hlen (dlt hlt) hx hy he (wrap_succ (by omega)) ih
    · rw [decide_eq_false h] at he
      have e : decide (x :: ra = y :: rb) = false := decide_eq_false fun hh => h (List.cons.inj hh).1
      rw [e]
      exact cl_d fa fb _ _ _ (a.length : Nat) x y hlen (dlt hlt) hx hy he
def callsEqSpec : Spec
  | [p, q] => match callsOf p, callsOf q with
    | some a, some b => if a.length < 2 ^ 40 then some [pbool (decide (a = b))] else none
    | _, _ => none
  | _ => none
theorem callsEq_sat : Sat C10 43 callsEqSpec := by
  refine sat_of_ev (O := noO) hP10 (fun _ _ h => h.elim) hm0 fun ps rs hs => ?_
  unfold callsEqSpec at hs
  split at hs
  · split at hs
    · rename_i p q a b ha hb
      split at hs
      · rename_i hlt
        simp only [Option.some.injEq] at hs
        subst hs
        have hla : (((rowsP a).length : Nat) : Int) = (a.length : Nat) := by simp [rowsP]
        have hlb : (((rowsP b).length : Nat) : Int) = (b.length : Nat) := by simp [rowsP]
        rcases callsOf_cases ha with ⟨rfl, rfl⟩ | ⟨fa, rfl⟩
        · rcases callsOf_cases hb with ⟨rfl, rfl⟩ | ⟨fb, rfl⟩
          · exact ⟨_, _, _, cc_nn, rfl⟩
          · cases b with
            | nil => exact ⟨_, _, _, cc_nsz fb _ _ hlb rfl, rfl⟩
            | cons y r => exact ⟨_, _, _, cc_ns fb _ _ true hlb (by simp; omega), rfl⟩
        · rcases callsOf_cases hb with ⟨rfl, rfl⟩ | ⟨fb, rfl⟩
          · cases a with
            | nil => exact ⟨_, _, _, cc_snz fa _ _ hla rfl rfl, rfl⟩
            | cons y r => exact ⟨_, _, _, cc_sn fa _ _ hla (by simp; omega), rfl⟩
          · by_cases hl : a.length = b.length
            · have h := cl_loop fa fb a b hl hlt a b [] [] rfl rfl rfl
              have hne : (!(((a.length : Nat) : Int) == ((b.length : Nat) : Int))) = false := by simp [hl]
              cases e : decide (a = b) with
              | true => rw [e] at h; exact ⟨_, _, _, cc_e fa fb _ _ _ _ hla hlb hne h, rfl⟩
              | false => rw [e] at h; exact ⟨_, _, _, cc_r fa fb _ _ _ _ hla hlb hne h, rfl⟩
            · have e : decide (a = b) = false := decide_eq_false fun h => hl (by rw [h])
              rw [e]
              exact ⟨_, _, _, cc_ne fa fb _ _ _ _ hla hlb (by simp; omega), rfl⟩
      · cases hs
    · cases hs
  · cases hs

end Go.Ev

namespace Go.Ev
open Go Go.RowKit Go.Proofs

def L10 : List (FuncId × Spec) := (43, callsEqSpec) :: (54, lessSpec) :: L9
noncomputable def C12 : Ctx := { P := Try.prog, prim := primL L10 }
theorem hP12 : PrimOK C12 := by
  have h1 : PrimOK { P := Try.prog, prim := primL ((54, lessSpec) :: L9) } := primOK_cons hP10 rfl (by decide) less_sat rfl rfl rfl (by kernel_rfl)
  exact primOK_cons h1 rfl (by decide) (callsEq_sat.ctx rfl rfl) rfl rfl rfl (by kernel_rfl)

def ordRow : List DV → Option (List (Int × Int))
  | [dv] => callsOf (.one dv)
  | _ => none
def ordsOf (p : PV) : Option (List (List (Int × Int))) := match sliceOf 1 p with
  | some rows => allSome ordRow rows
  | none => none
theorem ordRows_of : ∀ {rows : List (List DV)} {O : List (List (Int × Int))}, allSome ordRow rows = some O → ∃ A : List (DV × List (Int × Int)), rows = A.map (fun x => [x.1]) ∧ O = A.map (·.2) ∧ ∀ x ∈ A, callsOf (.one x.1) = some x.2
  | [], O, h => by simp [allSome] at h; subst h; exact ⟨[], rfl, rfl, by simp⟩
  | r :: rows, O, h => by
    simp only [allSome] at h
    cases e1 : ordRow r with
    | none => simp [e1] at h
    | some o =>
      cases e2 : allSome ordRow rows with
      | none => simp [e1, e2] at h
      | some O2 =>
        simp only [e1, e2, Option.some.injEq] at h
        subst h
        obtain ⟨A, rfl, rfl, hA⟩ := ordRows_of e2
        match r, e1 with
        | [dv], e1 => exact ⟨(dv, o) :: A, rfl, rfl, fun x hx => by
            rcases List.mem_cons.1 hx with rfl | hx
            · exact e1
            · exact hA x hx⟩
theorem ordsOf_cases {p : PV} {O : List (List (Int × Int))} (h : ordsOf p = some O) : (p = nilPV ∧ O = []) ∨ ∃ f, ∃ A : List (DV × List (Int × Int)), p = .one (.sl 1 f (A.map fun x => [x.1])) ∧ O = A.map (·.2) ∧ ∀ x ∈ A, callsOf (.one x.1) = some x.2 := by
  unfold ordsOf at h
  split at h
  · rename_i rows e
    unfold sliceOf at e
    split at e
    · simp only [Option.some.injEq] at e
      subst e
      simp [allSome] at h
      exact .inl ⟨rfl, h⟩
    · rename_i sz f rows'
      split at e
      · rename_i hs
        subst hs
        simp only [Option.some.injEq] at e
        subst e
        obtain ⟨A, rfl, rfl, hA⟩ := ordRows_of h
        exact .inr ⟨f, A, rfl, rfl, hA⟩
      · cases e
    · cases e
  · cases h
theorem frzD {dv : DV} {o : List (Int × Int)} (h : callsOf (.one dv) = some o) (H0 : H) : freeze1 H0 (.d dv) = some (.one dv, H0) := by
  rcases callsOf_cases h with ⟨e, _⟩ | ⟨f, e⟩
  · simp only [PV.one.injEq] at e; subst e; rfl
  · simp only [PV.one.injEq] at e; subst e; rfl

def s26 (x y : DV) (i : Int) : St := { σ := slots 27 [(0, .d x), (1, .d y), (5, vi i)], h := {} }
def o26 : Bool → X × St
  | true => (.exit 0, { σ := slots 27 [], h := {} })
  | false => (.ret, { σ := slots 27 [(4, vb false)], h := {} })
section
variable (fa fb : Bool) (ra rb : List (List DV)) (i n m : Int)
theorem rw_n (h1 : (ra.length : Int) = n) (h2 : decide (i < n) = false) : Ev C12 noO (.code 26 false (loopOf Try.prog 26 0) (s26 (.sl 1 fa ra) (.sl 1 fb rb) i)) (.code (.exit 0) { σ := slots 27 [], h := {} }) :=
  symM_ev (n := 60) (sc := [(site 26 13, Dec.int n), (site 26 14, Dec.b false)]) (keep := []) (sc' := []) (by kernel_rfl) (AllP_cons h1 (AllP_cons h2 AllP_nil))
theorem rw_dnn (h1 : (ra.length : Int) = n) (h2 : decide (i < n) = true) (h3 : 0 ≤ i ∧ ra[i.toNat]? = some [(.v (.slice none 0 0))]) (h4 : 0 ≤ i ∧ rb[i.toNat]? = some [(.v (.slice none 0 0))]) (h5 : callsEqSpec [.one (.v (.slice none 0 0)), .one (.v (.slice none 0 0))] = some [pbool false]) :
    Ev C12 noO (.code 26 false (loopOf Try.prog 26 0) (s26 (.sl 1 fa ra) (.sl 1 fb rb) i)) (.code .ret { σ := slots 27 [(4, vb false)], h := {} }) :=
  symM_ev (n := 60) (sc := [(site 26 13, Dec.int n), (site 26 14, Dec.b true), (site 26 19, Dec.row [(.v (.slice none 0 0))]), (site 26 23, Dec.row [(.v (.slice none 0 0))]), (site 26 25, Dec.prim [pbool false])]) (keep := [4]) (sc' := []) (by kernel_rfl) (AllP_cons h1 (AllP_cons h2 (AllP_cons h3 (AllP_cons h4 (AllP_cons h5 AllP_nil)))))
theorem rw_enn (i1 : Int) (x : X) (s : St) (h1 : (ra.length : Int) = n) (h2 : decide (i < n) = true) (h3 : 0 ≤ i ∧ ra[i.toNat]? = some [(.v (.slice none 0 0))]) (h4 : 0 ≤ i ∧ rb[i.toNat]? = some [(.v (.slice none 0 0))]) (h5 : callsEqSpec [.one (.v (.slice none 0 0)), .one (.v (.slice none 0 0))] = some [pbool true]) (h6 : wr64 (i + 1) = i1)
    (h7 : Ev C12 noO (.code 26 false (loopOf Try.prog 26 0) (s26 (.sl 1 fa ra) (.sl 1 fb rb) i1)) (.code x s)) : Ev C12 noO (.code 26 false (loopOf Try.prog 26 0) (s26 (.sl 1 fa ra) (.sl 1 fb rb) i)) (.code x s) :=
  sym_ev 60 _ [(site 26 13, Dec.int n), (site 26 14, Dec.b true), (site 26 19, Dec.row [(.v (.slice none 0 0))]), (site 26 23, Dec.row [(.v (.slice none 0 0))]), (site 26 25, Dec.prim [pbool true]), (site 26 16, Dec.int i1), (site 26 8001, Dec.loop [0, 1, 5] x s)] _ [] _ (by kernel_rfl) (AllP_cons h1 (AllP_cons h2 (AllP_cons h3 (AllP_cons h4 (AllP_cons h5 (AllP_cons h6 (AllP_cons h7 AllP_nil)))))))
theorem rw_dns (gb : Bool) (xb : List (List DV)) (h1 : (ra.length : Int) = n) (h2 : decide (i < n) = true) (h3 : 0 ≤ i ∧ ra[i.toNat]? = some [(.v (.slice none 0 0))]) (h4 : 0 ≤ i ∧ rb[i.toNat]? = some [(.sl 2 gb xb)]) (h5 : callsEqSpec [.one (.v (.slice none 0 0)), .one (.sl 2 gb xb)] = some [pbool false]) :
    Ev C12 noO (.code 26 false (loopOf Try.prog 26 0) (s26 (.sl 1 fa ra) (.sl 1 fb rb) i)) (.code .ret { σ := slots 27 [(4, vb false)], h := {} }) :=
  symM_ev (n := 60) (sc := [(site 26 13, Dec.int n), (site 26 14, Dec.b true), (site 26 19, Dec.row [(.v (.slice none 0 0))]), (site 26 23, Dec.row [(.sl 2 gb xb)]), (site 26 25, Dec.prim [pbool false])]) (keep := [4]) (sc' := []) (by kernel_rfl) (AllP_cons h1 (AllP_cons h2 (AllP_cons h3 (AllP_cons h4 (AllP_cons h5 AllP_nil)))))
theorem rw_ens (gb : Bool) (xb : List (List DV)) (i1 : Int) (x : X) (s : St) (h1 : (ra.length : Int) = n) (h2 : decide (i < n) = true) (h3 : 0 ≤ i ∧ ra[i.toNat]? = some [(.v (.slice none 0 0))]) (h4 : 0 ≤ i ∧ rb[i.toNat]? = some [(.sl 2 gb xb)]) (h5 : callsEqSpec [.one (.v (.slice none 0 0)), .one (.sl 2 gb xb)] = some [pbool true]) (h6 : wr64 (i + 1) = i1)
    (h7 : Ev C12 noO (.code 26 false (loopOf Try.prog 26 0) (s26 (.sl 1 fa ra) (.sl 1 fb rb) i1)) (.code x s)) : Ev C12 noO (.code 26 false (loopOf Try.prog 26 0) (s26 (.sl 1 fa ra) (.sl 1 fb rb) i)) (.code x s) :=
  sym_ev 60 _ [(site 26 13, Dec.int n), (site 26 14, Dec.b true), (site 26 19, Dec.row [(.v (.slice none 0 0))]), (site 26 23, Dec.row [(.sl 2 gb xb)]), (site 26 25, Dec.prim [pbool true]), (site 26 16, Dec.int i1), (site 26 8001, Dec.loop [0, 1, 5] x s)] _ [] _ (by kernel_rfl) (AllP_cons h1 (AllP_cons h2 (AllP_cons h3 (AllP_cons h4 (AllP_cons h5 (AllP_cons h6 (AllP_cons h7 AllP_nil)))))))
theorem rw_dsn (ga : Bool) (xa : List (List DV)) (h1 : (ra.length : Int) = n) (h2 : decide (i < n) = true) (h3 : 0 ≤ i ∧ ra[i.toNat]? = some [(.sl 2 ga xa)]) (h4 : 0 ≤ i ∧ rb[i.toNat]? = some [(.v (.slice none 0 0))]) (h5 : callsEqSpec [.one (.sl 2 ga xa), .one (.v (.slice none 0 0))] = some [pbool false]) :
    Ev C12 noO (.code 26 false (loopOf Try.prog 26 0) (s26 (.sl 1 fa ra) (.sl 1 fb rb) i)) (.code .ret { σ := slots 27 [(4, vb false)], h := {} }) :=
  symM_ev (n := 60) (sc := [(site 26 13, Dec.int n), (site 26 14, Dec.b true), (site 26 19, Dec.row [(.sl 2 ga xa)]), (site 26 23, Dec.row [(.v (.slice none 0 0))]), (site 26 25, Dec.prim [pbool false])]) (keep := [4]) (sc' := []) (by kernel_rfl) (AllP_cons h1 (AllP_cons h2 (AllP_cons h3 (AllP_cons h4 (AllP_cons h5 AllP_nil)))))
theorem rw_esn (ga : Bool) (xa : List (List DV)) (i1 : Int) (x : X) (s : St) (h1 : (ra.length : Int) = n) (h2 : decide (i < n) = true) (h3 : 0 ≤ i ∧ ra[i.toNat]? = some [(.sl 2 ga xa)]) (h4 : 0 ≤ i ∧ rb[i.toNat]? = some [(.v (.slice none 0 0))]) (h5 : callsEqSpec [.one (.sl 2 ga xa), .one (.v (.slice none 0 0))] = some [pbool true]) (h6 : wr64 (i + 1) = i1)
    (h7 : Ev C12 noO (.code 26 false (loopOf Try.prog 26 0) (s26 (.sl 1 fa ra) (.sl 1 fb rb) i1)) (.code x s)) : Ev C12 noO (.code 26 false (loopOf Try.prog 26 0) (s26 (.sl 1 fa ra) (.sl 1 fb rb) i)) (.code x s) :=
  sym_ev 60 _ [(site 26 13, Dec.int n), (site 26 14, Dec.b true), (site 26 19, Dec.row [(.sl 2 ga xa)]), (site 26 23, Dec.row [(.v (.slice none 0 0))]), (site 26 25, Dec.prim [pbool true]), (site 26 16, Dec.int i1), (site 26 8001, Dec.loop [0, 1, 5] x s)] _ [] _ (by kernel_rfl) (AllP_cons h1 (AllP_cons h2 (AllP_cons h3 (AllP_cons h4 (AllP_cons h5 (AllP_cons h6 (AllP_cons h7 AllP_nil)))))))
theorem rw_dss (ga : Bool) (xa : List (List DV)) (gb : Bool) (xb : List (List DV)) (h1 : (ra.length : Int) = n) (h2 : decide (i < n) = true) (h3 : 0 ≤ i ∧ ra[i.toNat]? = some [(.sl 2 ga xa)]) (h4 : 0 ≤ i ∧ rb[i.toNat]? = some [(.sl 2 gb xb)]) (h5 : callsEqSpec [.one (.sl 2 ga xa), .one (.sl 2 gb xb)] = some [pbool false]) :
    Ev C12 noO (.code 26 false (loopOf Try.prog 26 0) (s26 (.sl 1 fa ra) (.sl 1 fb rb) i)) (.code .ret { σ := slots 27 [(4, vb false)], h := {} }) :=
  symM_ev (n := 60) (sc := [(site 26 13, Dec.int n), (site 26 14, Dec.b true), (site 26 19, Dec.row [(.sl 2 ga xa)]), (site 26 23, Dec.row [(.sl 2 gb xb)]), (site 26 25, Dec.prim [pbool false])]) (keep := [4]) (sc' := []) (by kernel_rfl) (AllP_cons h1 (AllP_cons h2 (AllP_cons h3 (AllP_cons h4 (AllP_cons h5 AllP_nil)))))
theorem rw_ess (ga : Bool) (xa : List (List DV)) (gb : Bool) (xb : List (List DV)) (i1 : Int) (x : X) (s : St) (h1 : (ra.length : Int) = n) (h2 : decide (i < n) = true) (h3 : 0 ≤ i ∧ ra[i.toNat]? = some [(.sl 2 ga xa)]) (h4 : 0 ≤ i ∧ rb[i.toNat]? = some [(.sl 2 gb xb)]) (h5 : callsEqSpec [.one (.sl 2 ga xa), .one (.sl 2 gb xb)] = some [pbool true]) (h6 : wr64 (i + 1) = i1)
    (h7 : Ev C12 noO (.code 26 false (loopOf Try.prog 26 0) (s26 (.sl 1 fa ra) (.sl 1 fb rb) i1)) (.code x s)) : Ev C12 noO (.code 26 false (loopOf Try.prog 26 0) (s26 (.sl 1 fa ra) (.sl 1 fb rb) i)) (.code x s) :=
  sym_ev 60 _ [(site 26 13, Dec.int n), (site 26 14, Dec.b true), (site 26 19, Dec.row [(.sl 2 ga xa)]), (site 26 23, Dec.row [(.sl 2 gb xb)]), (site 26 25, Dec.prim [pbool true]), (site 26 16, Dec.int i1), (site 26 8001, Dec.loop [0, 1, 5] x s)] _ [] _ (by kernel_rfl) (AllP_cons h1 (AllP_cons h2 (AllP_cons h3 (AllP_cons h4 (AllP_cons h5 (AllP_cons h6 (AllP_cons h7 AllP_nil)))))))
theorem rw_d (a b : DV) (ca : ∃ o, callsOf (.one a) = some o) (cb : ∃ o, callsOf (.one b) = some o) (h1 : (ra.length : Int) = n) (h2 : decide (i < n) = true) (h3 : 0 ≤ i ∧ ra[i.toNat]? = some [a]) (h4 : 0 ≤ i ∧ rb[i.toNat]? = some [b]) (h5 : callsEqSpec [.one a, .one b] = some [pbool false]) :
    Ev C12 noO (.code 26 false (loopOf Try.prog 26 0) (s26 (.sl 1 fa ra) (.sl 1 fb rb) i)) (.code .ret { σ := slots 27 [(4, vb false)], h := {} }) := by
  obtain ⟨oa, ca⟩ := ca
  obtain ⟨ob, cb⟩ := cb
  rcases callsOf_cases ca with ⟨e, _⟩ | ⟨ga, e⟩ <;> simp only [PV.one.injEq] at e <;> subst e <;> rcases callsOf_cases cb with ⟨e, _⟩ | ⟨gb, e⟩ <;> simp only [PV.one.injEq] at e <;> subst e
  · exact rw_dnn fa fb ra rb i n h1 h2 h3 h4 h5
  · exact rw_dns fa fb ra rb i n _ _ h1 h2 h3 h4 h5
  · exact rw_dsn fa fb ra rb i n _ _ h1 h2 h3 h4 h5
  · exact rw_dss fa fb ra rb i n _ _ _ _ h1 h2 h3 h4 h5
theorem rw_e (a b : DV) (ca : ∃ o, callsOf (.one a) = some o) (cb : ∃ o, callsOf (.one b) = some o) (i1 : Int) (x : X) (s : St) (h1 : (ra.length : Int) = n) (h2 : decide (i < n) = true) (h3 : 0 ≤ i ∧ ra[i.toNat]? = some [a]) (h4 : 0 ≤ i ∧ rb[i.toNat]? = some [b]) (h5 : callsEqSpec [.one a, .one b] = some [pbool true]) (h6 : wr64 (i + 1) = i1)
    (h7 : Ev C12 noO (.code 26 false (loopOf Try.prog 26 0) (s26 (.sl 1 fa ra) (.sl 1 fb rb) i1)) (.code x s)) : Ev C12 noO (.code 26 false (loopOf Try.prog 26 0) (s26 (.sl 1 fa ra) (.sl 1 fb rb) i)) (.code x s) := by
  obtain ⟨oa, ca⟩ := ca
  obtain ⟨ob, cb⟩ := cb
  rcases callsOf_cases ca with ⟨e, _⟩ | ⟨ga, e⟩ <;> simp only [PV.one.injEq] at e <;> subst e <;> rcases callsOf_cases cb with ⟨e, _⟩ | ⟨gb, e⟩ <;> simp only [PV.one.injEq] at e <;> subst e
  · exact rw_enn fa fb ra rb i n i1 x s h1 h2 h3 h4 h5 h6 h7
  · exact rw_ens fa fb ra rb i n _ _ i1 x s h1 h2 h3 h4 h5 h6 h7
  · exact rw_esn fa fb ra rb i n _ _ i1 x s h1 h2 h3 h4 h5 h6 h7
  · exact rw_ess fa fb ra rb i n _ _ _ _ i1 x s h1 h2 h3 h4 h5 h6 h7
theorem rc_ne (h1 : (ra.length : Int) = n) (h2 : (rb.length : Int) = m) (h3 : (!(n == m)) = true) : Ev C12 noO (.call 26 [.d (.sl 1 fa ra), .d (.sl 1 fb rb)] {}) (.val (vb false) {}) :=
  sym_ev 60 _ [(site 26 7, Dec.int n), (site 26 9, Dec.int m), (site 26 10, Dec.b true)] _ [] _ (by kernel_rfl) (AllP_cons h1 (AllP_cons h2 (AllP_cons h3 AllP_nil)))
theorem rc_e (h1 : (ra.length : Int) = n) (h2 : (rb.length : Int) = m) (h3 : (!(n == m)) = false) (h4 : Ev C12 noO (.code 26 false (loopOf Try.prog 26 0) (s26 (.sl 1 fa ra) (.sl 1 fb rb) 0)) (.code (.exit 0) { σ := slots 27 [], h := {} })) :
    Ev C12 noO (.call 26 [.d (.sl 1 fa ra), .d (.sl 1 fb rb)] {}) (.val (vb true) {}) :=
  sym_ev 60 _ [(site 26 7, Dec.int n), (site 26 9, Dec.int m), (site 26 10, Dec.b false), (site 26 8001, Dec.loop [0, 1, 5] (.exit 0) { σ := slots 27 [], h := {} })] _ [] _ (by kernel_rfl) (AllP_cons h1 (AllP_cons h2 (AllP_cons h3 (AllP_cons h4 AllP_nil))))
theorem rc_r (h1 : (ra.length : Int) = n) (h2 : (rb.length : Int) = m) (h3 : (!(n == m)) = false) (h4 : Ev C12 noO (.code 26 false (loopOf Try.prog 26 0) (s26 (.sl 1 fa ra) (.sl 1 fb rb) 0)) (.code .ret { σ := slots 27 [(4, vb false)], h := {} })) :
    Ev C12 noO (.call 26 [.d (.sl 1 fa ra), .d (.sl 1 fb rb)] {}) (.val (vb false) {}) :=
  sym_ev 60 _ [(site 26 7, Dec.int n), (site 26 9, Dec.int m), (site 26 10, Dec.b false), (site 26 8001, Dec.loop [0, 1, 5] .ret { σ := slots 27 [(4, vb false)], h := {} })] _ [] _ (by kernel_rfl) (AllP_cons h1 (AllP_cons h2 (AllP_cons h3 (AllP_cons h4 AllP_nil))))
theorem rc_nn : Ev C12 noO (.call 26 [.d (.v (.slice none 0 0)), .d (.v (.slice none 0 0))] {}) (.val (vb true) {}) := sym_ev 60 _ [] _ [] _ (by kernel_rfl) AllP_nil
theorem rc_ns (h1 : (rb.length : Int) = m) (h2 : (!((0 : Int) == m)) = true) : Ev C12 noO (.call 26 [.d (.v (.slice none 0 0)), .d (.sl 1 fb rb)] {}) (.val (vb false) {}) :=
  sym_ev 60 _ [(site 26 9, Dec.int m), (site 26 10, Dec.b true)] _ [] _ (by kernel_rfl) (AllP_cons h1 (AllP_cons h2 AllP_nil))
theorem rc_nsz (h1 : (rb.length : Int) = m) (h2 : (!((0 : Int) == m)) = false) : Ev C12 noO (.call 26 [.d (.v (.slice none 0 0)), .d (.sl 1 fb rb)] {}) (.val (vb true) {}) :=
  sym_ev 60 _ [(site 26 9, Dec.int m), (site 26 10, Dec.b false)] _ [] _ (by kernel_rfl) (AllP_cons h1 (AllP_cons h2 AllP_nil))
theorem rc_sn (h1 : (ra.length : Int) = n) (h2 : (!(n == (0 : Int))) = true) : Ev C12 noO (.call 26 [.d (.sl 1 fa ra), .d (.v (.slice none 0 0))] {}) (.val (vb false) {}) :=
  sym_ev 60 _ [(site 26 7, Dec.int n), (site 26 10, Dec.b true)] _ [] _ (by kernel_rfl) (AllP_cons h1 (AllP_cons h2 AllP_nil))
theorem rc_snz (h1 : (ra.length : Int) = n) (h2 : (!(n == (0 : Int))) = false) (h3 : decide ((0 : Int) < n) = false) : Ev C12 noO (.call 26 [.d (.sl 1 fa ra), .d (.v (.slice none 0 0))] {}) (.val (vb true) {}) :=
  sym_ev 60 _ [(site 26 7, Dec.int n), (site 26 10, Dec.b false), (site 26 13, Dec.int n), (site 26 14, Dec.b false)] _ [] _ (by kernel_rfl) (AllP_cons h1 (AllP_cons h2 (AllP_cons h1 (AllP_cons h3 AllP_nil))))
end
theorem rw_loop (fa fb : Bool) (a b : List (DV × List (Int × Int))) (hA : ∀ x ∈ a, callsOf (.one x.1) = some x.2 ∧ x.2.length < 2 ^ 40) (hB : ∀ x ∈ b, callsOf (.one x.1) = some x.2) (hl : a.length = b.length) (hb : a.length < 2 ^ 40) :
    ∀ (ra rb pa pb : List (DV × List (Int × Int))), pa ++ ra = a → pb ++ rb = b → pa.length = pb.length →
    Ev C12 noO (.code 26 false (loopOf Try.prog 26 0) (s26 (.sl 1 fa (a.map fun x => [x.1])) (.sl 1 fb (b.map fun x => [x.1])) (pa.length : Nat))) (.code (o26 (decide (ra.map (·.2) = rb.map (·.2)))).1 (o26 (decide (ra.map (·.2) = rb.map (·.2)))).2)
  | [], [], pa, pb, ha, hb', hp => rw_n fa fb _ _ _ (a.length : Nat) (by simp) (dge (by subst ha; simp))
  | [], y :: rb, pa, pb, ha, hb', hp => by
    have h1 := congrArg List.length ha
    have h2 := congrArg List.length hb'
    simp at h1 h2; omega
  | x :: ra, [], pa, pb, ha, hb', hp => by
    have h1 := congrArg List.length ha
    have h2 := congrArg List.length hb'
    simp at h1 h2; omega
  | x :: ra, y :: rb, pa, pb, ha, hb', hp => by
    have hlt := pre_lt ha
    have hx := row_at (g := fun x : DV × List (Int × Int) => [x.1]) ha
    have hy := row_at (g := fun x : DV × List (Int × Int) => [x.1]) hb'
    rw [← hp] at hy
    have ih := rw_loop fa fb a b hA hB hl hb ra rb (pa ++ [x]) (pb ++ [y]) (pre_snoc ha) (pre_snoc hb') (by simp [hp])
    simp only [len_snoc] at ih
    have hlen : (((a.map fun x => [x.1]).length : Nat) : Int) = (a.length : Nat) := by simp
    obtain ⟨c1, c2⟩ := hA x (by rw [← ha]; simp)
    have c3 := hB y (by rw [← hb']; simp)
    have he : callsEqSpec [.one x.1, .one y.1] = some [pbool (decide (x.2 = y.2))] := by simp only [callsEqSpec, c1, c3, c2, if_true]
    by_cases h : x.2 = y.2
    · rw [decide_eq_true h] at he
      have e : decide ((x :: ra).map (·.2) = (y :: rb).map (·.2)) = decide (ra.map (·.2) = rb.map (·.2)) := by simp [h]
      rw [e]
      exact rw_e fa fb _ _ _ (a.length : Nat) x.1 y.1 ⟨_, c1⟩ ⟨_, c3⟩ _ _ _ hlen (dlt hlt) hx hy he (wrap_succ (by omega)) ih
    · rw [decide_eq_false h] at he
      have e : decide ((x :: ra).map (·.2) = (y :: rb).map (·.2)) = false := decide_eq_false fun hh => h (by simpa using (List.cons.inj hh).1)
      rw [e]
      exact rw_d fa fb _ _ _ (a.length : Nat) x.1 y.1 ⟨_, c1⟩ ⟨_, c3⟩ hlen (dlt hlt) hx hy he
def rowsEqSpec : Spec
  | [p, q] => match ordsOf p, ordsOf q with
    | some a, some b => if a.length < 2 ^ 40 ∧ ∀ o ∈ a, o.length < 2 ^ 40 then some [pbool (decide (a = b))] else none
    | _, _ => none
  | _ => none
theorem rowsEq_sat : Sat C12 26 rowsEqSpec := by
  refine sat_of_ev (O := noO) hP12 (fun _ _ h => h.elim) hm0 fun ps rs hs => ?_
  unfold rowsEqSpec at hs
  split at hs
  · split at hs
    · rename_i p q a b ha hb
      split at hs
      · rename_i hlt
        obtain ⟨hlt, hle⟩ := hlt
        simp only [Option.some.injEq] at hs
        subst hs
        rcases ordsOf_cases ha with ⟨rfl, rfl⟩ | ⟨fa, A, rfl, rfl, hA⟩
        · rcases ordsOf_cases hb with ⟨rfl, rfl⟩ | ⟨fb, B, rfl, rfl, hB⟩
          · exact ⟨_, _, _, rc_nn, rfl⟩
          · have hlb : (((B.map fun x => [x.1]).length : Nat) : Int) = (B.length : Nat) := by simp
            cases B with
            | nil => exact ⟨_, _, _, rc_nsz fb _ _ hlb rfl, rfl⟩
            | cons y r => exact ⟨_, _, _, rc_ns fb _ _ hlb (by simp; omega), rfl⟩
        · have hla : (((A.map fun x => [x.1]).length : Nat) : Int) = (A.length : Nat) := by simp
          rcases ordsOf_cases hb with ⟨rfl, rfl⟩ | ⟨fb, B, rfl, rfl, hB⟩
          · cases A with
            | nil => exact ⟨_, _, _, rc_snz fa _ _ hla rfl rfl, rfl⟩
            | cons y r => exact ⟨_, _, _, rc_sn fa _ _ hla (by simp; omega), rfl⟩
          · have hlb : (((B.map fun x => [x.1]).length : Nat) : Int) = (B.length : Nat) := by simp
            by_cases hl : A.length = B.length
            · have h := rw_loop fa fb A B (fun x hx => ⟨hA x hx, hle x.2 (List.mem_map.2 ⟨x, hx, rfl⟩)⟩) hB hl (by simpa using hlt) A B [] [] rfl rfl rfl
              have hne : (!(((A.length : Nat) : Int) == ((B.length : Nat) : Int))) = false := by simp [hl]
              cases e : decide (A.map (·.2) = B.map (·.2)) with
              | true => rw [e] at h; exact ⟨_, _, _, rc_e fa fb _ _ _ _ hla hlb hne h, rfl⟩
              | false => rw [e] at h; exact ⟨_, _, _, rc_r fa fb _ _ _ _ hla hlb hne h, rfl⟩
            · have e : decide (A.map (·.2) = B.map (·.2)) = false := decide_eq_false fun h => hl (by have := congrArg List.length h; simpa using this)
              rw [e]
              exact ⟨_, _, _, rc_ne fa fb _ _ _ _ hla hlb (by simp; omega), rfl⟩
      · cases hs
    · cases hs
  · cases hs

end Go.Ev

namespace Go.Ev
open Go Go.RowKit Go.Proofs

def s42 (r : List (List DV)) (y : DV) (i : Int) (tk : List (Nat × Nat)) : St := { σ := slots 51 [(0, .d (.sl 4 false r)), (3, .d y), (4, vi i)], h := { toks := tk } }
def t42 (r : List (List DV)) (y : DV) (i at_ : Int) (c : Int × Int) (tk : List (Nat × Nat)) : St :=
  { σ := slots 51 [(0, .d (.sl 4 false r)), (3, .d y), (4, vi i), (5, .ptr (site 42 5) 0 0), (6, vi at_)], h := { objs := [(site 42 5, 1, [.cells [vi c.1, vi c.2] false])], toks := tk } }
theorem jn_z (r : List (List DV)) (i at_ : Int) (c : Int × Int) (tk : List (Nat × Nat)) (h1 : decide (at_ > 0) = false) : Ev C12 noO (.code 42 false (loopOf Try.prog 42 1) (t42 r (.v (.slice none 0 0)) i at_ c tk)) (.code (.exit 2) (t42 r (.v (.slice none 0 0)) i at_ c tk)) :=
  symM_ev (n := 60) (sc := [(site 42 27, Dec.b false)]) (keep := [0, 3, 4, 5, 6]) (sc' := []) (by kernel_rfl) (AllP_cons h1 AllP_nil)
theorem js_z (r : List (List DV)) (ro : List (List DV)) (i at_ : Int) (c : Int × Int) (tk : List (Nat × Nat)) (h1 : decide (at_ > 0) = false) : Ev C12 noO (.code 42 false (loopOf Try.prog 42 1) (t42 r (.sl 2 false ro) i at_ c tk)) (.code (.exit 2) (t42 r (.sl 2 false ro) i at_ c tk)) :=
  symM_ev (n := 60) (sc := [(site 42 27, Dec.b false)]) (keep := [0, 3, 4, 5, 6]) (sc' := []) (by kernel_rfl) (AllP_cons h1 AllP_nil)
theorem js_n (r : List (List DV)) (ro : List (List DV)) (i at_ q : Int) (c d : Int × Int) (tk : List (Nat × Nat)) (h1 : decide (at_ > 0) = true) (h2 : wr64 (at_ - 1) = q) (h3 : 0 ≤ q ∧ ro[q.toNat]? = some (rowC d)) (h4 : lessSpec [.agg (rowC c), .agg (rowC d)] = some [pbool false]) :
    Ev C12 noO (.code 42 false (loopOf Try.prog 42 1) (t42 r (.sl 2 false ro) i at_ c tk)) (.code (.exit 2) (t42 r (.sl 2 false ro) i at_ c tk)) :=
  symM_ev (n := 60) (sc := [(site 42 27, Dec.b true), (site 42 32, Dec.int q), (site 42 33, Dec.row (rowC d)), (site 42 35, Dec.prim [pbool false])]) (keep := [0, 3, 4, 5, 6]) (sc' := []) (by kernel_rfl) (AllP_cons h1 (AllP_cons h2 (AllP_cons h3 (AllP_cons h4 AllP_nil))))
theorem js_y (r : List (List DV)) (ro : List (List DV)) (i at_ q : Int) (c d : Int × Int) (tk : List (Nat × Nat)) (x : X) (s : St) (h1 : decide (at_ > 0) = true) (h2 : wr64 (at_ - 1) = q) (h3 : 0 ≤ q ∧ ro[q.toNat]? = some (rowC d)) (h4 : lessSpec [.agg (rowC c), .agg (rowC d)] = some [pbool true])
    (h5 : Ev C12 noO (.code 42 false (loopOf Try.prog 42 1) (t42 r (.sl 2 false ro) i q c tk)) (.code x s)) : Ev C12 noO (.code 42 false (loopOf Try.prog 42 1) (t42 r (.sl 2 false ro) i at_ c tk)) (.code x s) :=
  sym_ev 60 _ [(site 42 27, Dec.b true), (site 42 32, Dec.int q), (site 42 33, Dec.row (rowC d)), (site 42 35, Dec.prim [pbool true]), (site 42 38, Dec.int q), (site 42 8001, Dec.loop [0, 3, 4, 5, 6] x s)] _ [] _ (by kernel_rfl) (AllP_cons h1 (AllP_cons h2 (AllP_cons h3 (AllP_cons h4 (AllP_cons h2 (AllP_cons h5 AllP_nil))))))
theorem so_nil (r : List (List DV)) (i n i1 : Int) (s4 : S4) (a b d : Nat) (x : X) (s : St) (h1 : (r.length : Int) = n) (h2 : decide (i < n) = true) (h3 : 0 ≤ i ∧ r[i.toNat]? = some (rowS s4)) (h5 : Ev C12 noO (.code 42 false (loopOf Try.prog 42 1) (t42 r (.v (.slice none 0 0)) i 0 (callS s4) [(site 42 42, a), (site 42 45, b), (site 42 49, d)])) (.code (.exit 2) (t42 r (.v (.slice none 0 0)) i 0 (callS s4) [(site 42 42, a), (site 42 45, b), (site 42 49, d)]))) (h7 : true = true ∧ b + 1 = b + 1 ∧ fitsP 1 0 16) (h8 : wr64 (i + 1) = i1)
    (h9 : Ev C12 noO (.code 42 false (loopOf Try.prog 42 0) (s42 r (.sl 2 false [rowC (callS s4)]) i1 [(site 42 42, a), (site 42 45, b + 1 + 1), (site 42 49, d + 1)])) (.code x s)) : Ev C12 noO (.code 42 false (loopOf Try.prog 42 0) (s42 r (.v (.slice none 0 0)) i [(site 42 42, a), (site 42 45, b), (site 42 49, d)])) (.code x s) :=
  sym_ev 60 _ [(site 42 9, Dec.int n), (site 42 10, Dec.b true), (site 42 15, Dec.row (rowS s4)), (site 42 20, Dec.row (rowS s4)), (site 42 8001, Dec.loop [0, 3, 4, 5, 6] (.exit 2) (t42 r (.v (.slice none 0 0)) i 0 (callS s4) [(site 42 42, a), (site 42 45, b), (site 42 49, d)])), (site 42 49, Dec.app true), (site 42 8005, Dec.val 3), (site 42 12, Dec.int i1), (site 42 8002, Dec.drop [site 42 5] [0, 3, 4]), (site 42 8001, Dec.loop [0, 3, 4] x s)] _ [] _ (by kernel_rfl) (AllP_cons h1 (AllP_cons h2 (AllP_cons h3 (AllP_cons h3 (AllP_cons h5 (AllP_cons h7 (AllP_cons h8 (AllP_cons (rfl : true = true) (AllP_cons (rfl : true = true) (AllP_cons (rfl : true = true) (AllP_cons h9 AllP_nil)))))))))))
theorem so_tt (ro r1 r2 : List (List DV)) (f1 f2 : Bool) (p m : Nat) (w : Int) (r : List (List DV)) (i n i1 : Int) (s4 : S4) (a b d : Nat) (x : X) (s : St) (h1 : (r.length : Int) = n) (h2 : decide (i < n) = true) (h3 : 0 ≤ i ∧ r[i.toNat]? = some (rowS s4)) (h4 : (ro.length : Int) = w) (h5 : Ev C12 noO (.code 42 false (loopOf Try.prog 42 1) (t42 r (.sl 2 false ro) i w (callS s4) [(site 42 42, a), (site 42 45, b), (site 42 49, d)])) (.code (.exit 2) (t42 r (.sl 2 false ro) i (p : Int) (callS s4) [(site 42 42, a), (site 42 45, b), (site 42 49, d)]))) (h5c : cutGoal 2 (.d (.sl 2 false ro)) none (some (p : Int)) none 0 p m (.d (.sl 2 f1 r1))) (h42 : r1.isEmpty = true)  (h6c : cutGoal 2 (.d (.sl 2 false ro)) (some (p : Int)) none none p m m (.d (.sl 2 f2 r2))) (h49 : r2.isEmpty = true ∧ b + 1 = b + 1 ∧ fitsP ([rowC (callS s4)]).length r2.length 16) (h8 : wr64 (i + 1) = i1)
    (h9 : Ev C12 noO (.code 42 false (loopOf Try.prog 42 0) (s42 r (.sl 2 false (([rowC (callS s4)]) ++ r2)) i1 [(site 42 42, a), (site 42 45, b + 1 + 1), (site 42 49, d + 1)])) (.code x s)) : Ev C12 noO (.code 42 false (loopOf Try.prog 42 0) (s42 r (.sl 2 false ro) i [(site 42 42, a), (site 42 45, b), (site 42 49, d)])) (.code x s) :=
  sym_ev 60 _ [(site 42 9, Dec.int n), (site 42 10, Dec.b true), (site 42 15, Dec.row (rowS s4)), (site 42 20, Dec.row (rowS s4)), (site 42 25, Dec.int w), (site 42 8001, Dec.loop [0, 3, 4, 5, 6] (.exit 2) (t42 r (.sl 2 false ro) i (p : Int) (callS s4) [(site 42 42, a), (site 42 45, b), (site 42 49, d)])), (site 42 41, Dec.cut 0 p m (.d (.sl 2 f1 r1))), (site 42 42, Dec.app true), (site 42 48, Dec.cut p m m (.d (.sl 2 f2 r2))), (site 42 49, Dec.app true), (site 42 8005, Dec.val 3), (site 42 12, Dec.int i1), (site 42 8002, Dec.drop [site 42 5] [0, 3, 4]), (site 42 8001, Dec.loop [0, 3, 4] x s)] _ [] _ (by kernel_rfl) (AllP_cons h1 (AllP_cons h2 (AllP_cons h3 (AllP_cons h3 (AllP_cons h4 (AllP_cons h5 (AllP_cons h5c (AllP_cons h42 (AllP_cons h6c (AllP_cons h49 (AllP_cons h8 (AllP_cons (rfl : true = true) (AllP_cons (rfl : true = true) (AllP_cons (rfl : true = true) (AllP_cons h9 AllP_nil)))))))))))))))
theorem so_tf (ro r1 r2 : List (List DV)) (f1 f2 : Bool) (p m : Nat) (w : Int) (r : List (List DV)) (i n i1 : Int) (s4 : S4) (a b d : Nat) (x : X) (s : St) (h1 : (r.length : Int) = n) (h2 : decide (i < n) = true) (h3 : 0 ≤ i ∧ r[i.toNat]? = some (rowS s4)) (h4 : (ro.length : Int) = w) (h5 : Ev C12 noO (.code 42 false (loopOf Try.prog 42 1) (t42 r (.sl 2 false ro) i w (callS s4) [(site 42 42, a), (site 42 45, b), (site 42 49, d)])) (.code (.exit 2) (t42 r (.sl 2 false ro) i (p : Int) (callS s4) [(site 42 42, a), (site 42 45, b), (site 42 49, d)]))) (h5c : cutGoal 2 (.d (.sl 2 false ro)) none (some (p : Int)) none 0 p m (.d (.sl 2 f1 r1))) (h42 : r1.isEmpty = true)  (h6c : cutGoal 2 (.d (.sl 2 false ro)) (some (p : Int)) none none p m m (.d (.sl 2 f2 r2))) (h49 : r2.isEmpty = false ∧ b + 1 = b + 1 ∧ fitsP ([rowC (callS s4)]).length r2.length 16) (h8 : wr64 (i + 1) = i1)
    (h9 : Ev C12 noO (.code 42 false (loopOf Try.prog 42 0) (s42 r (.sl 2 false (([rowC (callS s4)]) ++ r2)) i1 [(site 42 42, a), (site 42 45, b + 1 + 1), (site 42 49, d + 1)])) (.code x s)) : Ev C12 noO (.code 42 false (loopOf Try.prog 42 0) (s42 r (.sl 2 false ro) i [(site 42 42, a), (site 42 45, b), (site 42 49, d)])) (.code x s) :=
  sym_ev 60 _ [(site 42 9, Dec.int n), (site 42 10, Dec.b true), (site 42 15, Dec.row (rowS s4)), (site 42 20, Dec.row (rowS s4)), (site 42 25, Dec.int w), (site 42 8001, Dec.loop [0, 3, 4, 5, 6] (.exit 2) (t42 r (.sl 2 false ro) i (p : Int) (callS s4) [(site 42 42, a), (site 42 45, b), (site 42 49, d)])), (site 42 41, Dec.cut 0 p m (.d (.sl 2 f1 r1))), (site 42 42, Dec.app true), (site 42 48, Dec.cut p m m (.d (.sl 2 f2 r2))), (site 42 49, Dec.app false), (site 42 8005, Dec.val 3), (site 42 12, Dec.int i1), (site 42 8002, Dec.drop [site 42 5] [0, 3, 4]), (site 42 8001, Dec.loop [0, 3, 4] x s)] _ [] _ (by kernel_rfl) (AllP_cons h1 (AllP_cons h2 (AllP_cons h3 (AllP_cons h3 (AllP_cons h4 (AllP_cons h5 (AllP_cons h5c (AllP_cons h42 (AllP_cons h6c (AllP_cons h49 (AllP_cons h8 (AllP_cons (rfl : true = true) (AllP_cons (rfl : true = true) (AllP_cons (rfl : true = true) (AllP_cons h9 AllP_nil)))))))))))))))
theorem so_ft (ro r1 r2 : List (List DV)) (f1 f2 : Bool) (p m : Nat) (w : Int) (r : List (List DV)) (i n i1 : Int) (s4 : S4) (a b d : Nat) (x : X) (s : St) (h1 : (r.length : Int) = n) (h2 : decide (i < n) = true) (h3 : 0 ≤ i ∧ r[i.toNat]? = some (rowS s4)) (h4 : (ro.length : Int) = w) (h5 : Ev C12 noO (.code 42 false (loopOf Try.prog 42 1) (t42 r (.sl 2 false ro) i w (callS s4) [(site 42 42, a), (site 42 45, b), (site 42 49, d)])) (.code (.exit 2) (t42 r (.sl 2 false ro) i (p : Int) (callS s4) [(site 42 42, a), (site 42 45, b), (site 42 49, d)]))) (h5c : cutGoal 2 (.d (.sl 2 false ro)) none (some (p : Int)) none 0 p m (.d (.sl 2 f1 r1))) (h42 : r1.isEmpty = false ∧ fitsP 0 r1.length 16) (h45 : false = false ∧ a + 1 = a + 1 ∧ fitsP ([] ++ r1).length 1 16) (h6c : cutGoal 2 (.d (.sl 2 false ro)) (some (p : Int)) none none p m m (.d (.sl 2 f2 r2))) (h49 : r2.isEmpty = true ∧ b + 1 = b + 1 ∧ fitsP (([] ++ r1) ++ [rowC (callS s4)]).length r2.length 16) (h8 : wr64 (i + 1) = i1)
    (h9 : Ev C12 noO (.code 42 false (loopOf Try.prog 42 0) (s42 r (.sl 2 false ((([] ++ r1) ++ [rowC (callS s4)]) ++ r2)) i1 [(site 42 42, a + 1 + 1), (site 42 45, b + 1 + 1), (site 42 49, d + 1)])) (.code x s)) : Ev C12 noO (.code 42 false (loopOf Try.prog 42 0) (s42 r (.sl 2 false ro) i [(site 42 42, a), (site 42 45, b), (site 42 49, d)])) (.code x s) :=
  sym_ev 60 _ [(site 42 9, Dec.int n), (site 42 10, Dec.b true), (site 42 15, Dec.row (rowS s4)), (site 42 20, Dec.row (rowS s4)), (site 42 25, Dec.int w), (site 42 8001, Dec.loop [0, 3, 4, 5, 6] (.exit 2) (t42 r (.sl 2 false ro) i (p : Int) (callS s4) [(site 42 42, a), (site 42 45, b), (site 42 49, d)])), (site 42 41, Dec.cut 0 p m (.d (.sl 2 f1 r1))), (site 42 42, Dec.app false), (site 42 45, Dec.app false), (site 42 48, Dec.cut p m m (.d (.sl 2 f2 r2))), (site 42 49, Dec.app true), (site 42 8005, Dec.val 3), (site 42 12, Dec.int i1), (site 42 8002, Dec.drop [site 42 5] [0, 3, 4]), (site 42 8001, Dec.loop [0, 3, 4] x s)] _ [] _ (by kernel_rfl) (AllP_cons h1 (AllP_cons h2 (AllP_cons h3 (AllP_cons h3 (AllP_cons h4 (AllP_cons h5 (AllP_cons h5c (AllP_cons h42 (AllP_cons h45 (AllP_cons h6c (AllP_cons h49 (AllP_cons h8 (AllP_cons (rfl : true = true) (AllP_cons (rfl : true = true) (AllP_cons (rfl : true = true) (AllP_cons h9 AllP_nil))))))))))))))))
theorem so_ff (ro r1 r2 : List (List DV)) (f1 f2 : Bool) (p m : Nat) (w : Int) (r : List (List DV)) (i n i1 : Int) (s4 : S4) (a b d : Nat) (x : X) (s : St) (h1 : (r.length : Int) = n) (h2 : decide (i < n) = true) (h3 : 0 ≤ i ∧ r[i.toNat]? = some (rowS s4)) (h4 : (ro.length : Int) = w) (h5 : Ev C12 noO (.code 42 false (loopOf Try.prog 42 1) (t42 r (.sl 2 false ro) i w (callS s4) [(site 42 42, a), (site 42 45, b), (site 42 49, d)])) (.code (.exit 2) (t42 r (.sl 2 false ro) i (p : Int) (callS s4) [(site 42 42, a), (site 42 45, b), (site 42 49, d)]))) (h5c : cutGoal 2 (.d (.sl 2 false ro)) none (some (p : Int)) none 0 p m (.d (.sl 2 f1 r1))) (h42 : r1.isEmpty = false ∧ fitsP 0 r1.length 16) (h45 : false = false ∧ a + 1 = a + 1 ∧ fitsP ([] ++ r1).length 1 16) (h6c : cutGoal 2 (.d (.sl 2 false ro)) (some (p : Int)) none none p m m (.d (.sl 2 f2 r2))) (h49 : r2.isEmpty = false ∧ b + 1 = b + 1 ∧ fitsP (([] ++ r1) ++ [rowC (callS s4)]).length r2.length 16) (h8 : wr64 (i + 1) = i1)
    (h9 : Ev C12 noO (.code 42 false (loopOf Try.prog 42 0) (s42 r (.sl 2 false ((([] ++ r1) ++ [rowC (callS s4)]) ++ r2)) i1 [(site 42 42, a + 1 + 1), (site 42 45, b + 1 + 1), (site 42 49, d + 1)])) (.code x s)) : Ev C12 noO (.code 42 false (loopOf Try.prog 42 0) (s42 r (.sl 2 false ro) i [(site 42 42, a), (site 42 45, b), (site 42 49, d)])) (.code x s) :=
  sym_ev 60 _ [(site 42 9, Dec.int n), (site 42 10, Dec.b true), (site 42 15, Dec.row (rowS s4)), (site 42 20, Dec.row (rowS s4)), (site 42 25, Dec.int w), (site 42 8001, Dec.loop [0, 3, 4, 5, 6] (.exit 2) (t42 r (.sl 2 false ro) i (p : Int) (callS s4) [(site 42 42, a), (site 42 45, b), (site 42 49, d)])), (site 42 41, Dec.cut 0 p m (.d (.sl 2 f1 r1))), (site 42 42, Dec.app false), (site 42 45, Dec.app false), (site 42 48, Dec.cut p m m (.d (.sl 2 f2 r2))), (site 42 49, Dec.app false), (site 42 8005, Dec.val 3), (site 42 12, Dec.int i1), (site 42 8002, Dec.drop [site 42 5] [0, 3, 4]), (site 42 8001, Dec.loop [0, 3, 4] x s)] _ [] _ (by kernel_rfl) (AllP_cons h1 (AllP_cons h2 (AllP_cons h3 (AllP_cons h3 (AllP_cons h4 (AllP_cons h5 (AllP_cons h5c (AllP_cons h42 (AllP_cons h45 (AllP_cons h6c (AllP_cons h49 (AllP_cons h8 (AllP_cons (rfl : true = true) (AllP_cons (rfl : true = true) (AllP_cons (rfl : true = true) (AllP_cons h9 AllP_nil))))))))))))))))
theorem son_end (r : List (List DV)) (i n : Int) (tk : List (Nat × Nat)) (h1 : (r.length : Int) = n) (h2 : decide (i < n) = false) : Ev C12 noO (.code 42 false (loopOf Try.prog 42 0) (s42 r (.v (.slice none 0 0)) i tk)) (.code (.exit 0) { σ := slots 51 [(3, .d (.v (.slice none 0 0)))], h := { toks := tk } }) :=
  symM_ev (n := 60) (sc := [(site 42 9, Dec.int n), (site 42 10, Dec.b false)]) (keep := [3]) (sc' := []) (by kernel_rfl) (AllP_cons h1 (AllP_cons h2 AllP_nil))
theorem sc42n (r : List (List DV)) (f : Bool) (tk : List (Nat × Nat)) (h1 : Ev C12 noO (.code 42 false (loopOf Try.prog 42 0) (s42 r (.v (.slice none 0 0)) 0 [])) (.code (.exit 0) { σ := slots 51 [(3, .d (.v (.slice none 0 0)))], h := { toks := tk } })) : Ev C12 noO (.call 42 [.d (.sl 4 false r)] {}) (.val (.d (.v (.slice none 0 0))) { toks := tk }) :=
  sym_ev 60 _ [(site 42 8001, Dec.loop [0, 3, 4] (.exit 0) { σ := slots 51 [(3, .d (.v (.slice none 0 0)))], h := { toks := tk } })] _ [] _ (by kernel_rfl) (AllP_cons h1 AllP_nil)
theorem sos_end (r : List (List DV)) (ro : List (List DV)) (i n : Int) (tk : List (Nat × Nat)) (h1 : (r.length : Int) = n) (h2 : decide (i < n) = false) : Ev C12 noO (.code 42 false (loopOf Try.prog 42 0) (s42 r (.sl 2 false ro) i tk)) (.code (.exit 0) { σ := slots 51 [(3, .d (.sl 2 false ro))], h := { toks := tk } }) :=
  symM_ev (n := 60) (sc := [(site 42 9, Dec.int n), (site 42 10, Dec.b false)]) (keep := [3]) (sc' := []) (by kernel_rfl) (AllP_cons h1 (AllP_cons h2 AllP_nil))
theorem sc42s (r : List (List DV)) (f : Bool) (ro : List (List DV)) (tk : List (Nat × Nat)) (h1 : Ev C12 noO (.code 42 false (loopOf Try.prog 42 0) (s42 r (.v (.slice none 0 0)) 0 [])) (.code (.exit 0) { σ := slots 51 [(3, .d (.sl 2 false ro))], h := { toks := tk } })) : Ev C12 noO (.call 42 [.d (.sl 4 false r)] {}) (.val (.d (.sl 2 false ro)) { toks := tk }) :=
  sym_ev 60 _ [(site 42 8001, Dec.loop [0, 3, 4] (.exit 0) { σ := slots 51 [(3, .d (.sl 2 false ro))], h := { toks := tk } })] _ [] _ (by kernel_rfl) (AllP_cons h1 AllP_nil)
theorem sc42z : Ev C12 noO (.call 42 [.d (.v (.slice none 0 0))] {}) (.val (.d (.v (.slice none 0 0))) {}) := sym_ev 60 _ [] _ [] _ (by kernel_rfl) AllP_nil

end Go.Ev

namespace Go.Ev
open Go Go.RowKit Go.Proofs

def dvP (l : List (Int × Int)) : DV := if l = [] then .v (.slice none 0 0) else .sl 2 false (rowsP l)
def tk42 (a b d : Nat) : List (Nat × Nat) := [(site 42 42, a), (site 42 45, b), (site 42 49, d)]
theorem less_at (c x : Int × Int) : lessSpec [.agg (rowC c), .agg (rowC x)] = some [pbool (decide (cmp2 c x < 0))] := by
  have h1 : pairOf (.agg (rowC c)) = some c := rfl
  have h2 : pairOf (.agg (rowC x)) = some x := rfl
  simp only [lessSpec, h1, h2, less_cmp]
theorem j_loop (r : List (List DV)) (i : Int) (c : Int × Int) (tk : List (Nat × Nat)) {out : List (Int × Int)} (hb : out.length < 2 ^ 40) : ∀ (rp d : List (Int × Int)), rp.reverse ++ d = out →
    ∃ p, p ≤ out.length ∧ insL rp c d = out.take p ++ c :: out.drop p ∧ Ev C12 noO (.code 42 false (loopOf Try.prog 42 1) (t42 r (.sl 2 false (rowsP out)) i (rp.length : Nat) c tk)) (.code (.exit 2) (t42 r (.sl 2 false (rowsP out)) i (p : Nat) c tk))
  | [], d, h => by
    refine ⟨0, by omega, ?_, js_z r (rowsP out) i _ c tk rfl⟩
    have : d = out := by simpa using h
    subst this
    simp [insL]
  | x :: rp, d, h => by
    have hlen := congrArg List.length h
    simp only [List.length_append, List.length_reverse, List.length_cons] at hlen
    have hx : out[rp.length]? = some x := by
      rw [← h, List.reverse_cons, List.append_assoc, List.getElem?_append_right (by simp)]; simp
    have hrow : 0 ≤ ((rp.length : Nat) : Int) ∧ (rowsP out)[((rp.length : Nat) : Int).toNat]? = some (rowC x) := by
      refine ⟨by omega, ?_⟩
      have : ((rp.length : Nat) : Int).toNat = rp.length := by simp
      rw [this]
      unfold rowsP
      rw [List.getElem?_map, hx]; rfl
    have hq : wr64 (((x :: rp).length : Nat) - 1) = ((rp.length : Nat) : Int) := by
      rw [List.length_cons, show (((rp.length + 1 : Nat) : Int) - 1) = ((rp.length : Nat) : Int) by omega]
      exact wrap_ok (by omega) (by omega)
    have hp : decide ((((x :: rp).length : Nat) : Int) > 0) = true := decide_eq_true (by simp)
    have hl := less_at c x
    unfold insL
    by_cases hlt : cmp2 c x < 0
    · rw [if_pos hlt]
      rw [decide_eq_true hlt] at hl
      obtain ⟨p, h1, h2, h3⟩ := j_loop r i c tk hb rp (x :: d) (by simpa using h)
      exact ⟨p, h1, h2, js_y r (rowsP out) i _ _ c x tk _ _ hp hq hrow hl h3⟩
    · rw [if_neg hlt]
      rw [decide_eq_false hlt] at hl
      refine ⟨(x :: rp).length, by simp; omega, ?_, js_n r (rowsP out) i _ _ c x tk hp hq hrow hl⟩
      rw [← h]
      have e1 : ((x :: rp).reverse ++ d).take (x :: rp).length = (x :: rp).reverse := List.take_left' (by simp)
      have e2 : ((x :: rp).reverse ++ d).drop (x :: rp).length = d := List.drop_left' (by simp)
      rw [e1, e2]
theorem s_loop (sp : List S4) (hb : sp.length < 2 ^ 30) : ∀ (rest pre : List S4) (out : List (Int × Int)) (a b d : Nat), pre ++ rest = sp → out.length = pre.length →
    ∃ a' b' d', Ev C12 noO (.code 42 false (loopOf Try.prog 42 0) (s42 (rowsS sp) (dvP out) (pre.length : Nat) (tk42 a b d))) (.code (.exit 0) { σ := slots 51 [(3, .d (dvP (sortL out (rest.map callS))))], h := { toks := tk42 a' b' d' } })
  | [], pre, out, a, b, d, h, ho => by
    refine ⟨a, b, d, ?_⟩
    have e : sortL out (([] : List S4).map callS) = out := rfl
    rw [e]
    unfold dvP
    by_cases hn : out = []
    · rw [if_pos hn]
      exact son_end _ _ (sp.length : Nat) _ (by simp [rowsS]) (dge (by subst h; simp))
    · rw [if_neg hn]
      exact sos_end _ _ _ (sp.length : Nat) _ (by simp [rowsS]) (dge (by subst h; simp))
  | s4 :: rest, pre, out, a, b, d, h, ho => by
    have hlt := pre_lt h
    have hrow := row_at (g := rowS) h
    have ih := fun out a b d ho => s_loop sp hb rest (pre ++ [s4]) out a b d (pre_snoc h) ho
    simp only [len_snoc] at ih
    have hlen : (((rowsS sp).length : Nat) : Int) = (sp.length : Nat) := by simp [rowsS]
    have hw : wr64 ((pre.length : Nat) + 1) = ((pre.length + 1 : Nat) : Int) := wrap_succ (by omega)
    have es : sortL out ((s4 :: rest).map callS) = sortL (insL out.reverse (callS s4) []) (rest.map callS) := rfl
    rw [es]
    by_cases hn : out = []
    · subst hn
      have e1 : insL ([] : List (Int × Int)).reverse (callS s4) [] = [callS s4] := rfl
      rw [e1]
      obtain ⟨a', b', d', h2⟩ := ih [callS s4] a (b + 1 + 1) (d + 1) (by have := ho; simp only [List.length_nil, List.length_cons] at this ⊢; omega)
      refine ⟨a', b', d', ?_⟩
      have e2 : dvP [] = .v (.slice none 0 0) := rfl
      have e3 : dvP [callS s4] = .sl 2 false [rowC (callS s4)] := rfl
      rw [e2]
      rw [e3] at h2
      exact so_nil _ _ _ _ s4 a b d _ _ hlen (dlt hlt) hrow (jn_z _ _ 0 _ _ rfl) ⟨rfl, rfl, by unfold fitsP; omega⟩ hw h2
    · have e2 : dvP out = .sl 2 false (rowsP out) := if_neg hn
      rw [e2]
      obtain ⟨p, p1, p2, p3⟩ := j_loop (rowsS sp) (pre.length : Nat) (callS s4) (tk42 a b d) (out := out) (by omega) out.reverse [] (by simp)
      rw [List.length_reverse] at p3
      rw [p2]
      have hro : (((rowsP out).length : Nat) : Int) = (out.length : Nat) := by simp [rowsP]
      have hrl : (rowsP out).length = out.length := by simp [rowsP]
      have e1 : ((rowsP out).drop 0).take (p - 0) = rowsP (out.take p) := by simp [rowsP]
      have e4 : ((rowsP out).drop p).take (out.length - p) = rowsP (out.drop p) := by
        unfold rowsP
        rw [← List.map_drop, List.take_of_length_le (by simp)]
      have c1 : cutGoal 2 (.d (.sl 2 false (rowsP out))) none (some ((p : Nat) : Int)) none 0 p out.length (.d (.sl 2 false (rowsP (out.take p)))) :=
        ⟨rfl, rfl, rfl, hrl.symm, Nat.zero_le _, p1, by omega, by rw [e1]; simp⟩
      have c2 : cutGoal 2 (.d (.sl 2 false (rowsP out))) (some ((p : Nat) : Int)) none none p out.length out.length (.d (.sl 2 false (rowsP (out.drop p)))) :=
        ⟨rfl, rfl, hrl.symm, hrl.symm, p1, Nat.le_refl _, by omega, by rw [e4]; simp⟩
      have hnew : dvP (out.take p ++ callS s4 :: out.drop p) = .sl 2 false (rowsP (out.take p ++ callS s4 :: out.drop p)) := if_neg (by simp)
      have hlen2 : (out.take p ++ callS s4 :: out.drop p).length = pre.length + 1 := by simp; omega
      by_cases z1 : p = 0
      · subst z1
        have t1 : (rowsP (out.take 0)).isEmpty = true := rfl
        obtain ⟨a', b', d', h2⟩ := ih (out.take 0 ++ callS s4 :: out.drop 0) a (b + 1 + 1) (d + 1) hlen2
        rw [hnew] at h2
        refine ⟨a', b', d', ?_⟩
        have er : rowsP (out.take 0 ++ callS s4 :: out.drop 0) = ([rowC (callS s4)]) ++ rowsP (out.drop 0) := by simp [rowsP, rowC, di]
        rw [er] at h2
        cases t2 : (rowsP (out.drop 0)).isEmpty with
        | true => exact so_tt _ _ _ _ _ 0 _ _ _ _ _ _ s4 a b d _ _ hlen (dlt hlt) hrow hro p3 c1 t1 c2 ⟨t2, rfl, by unfold fitsP; simp [rowsP]; omega⟩ hw h2
        | false => exact so_tf _ _ _ _ _ 0 _ _ _ _ _ _ s4 a b d _ _ hlen (dlt hlt) hrow hro p3 c1 t1 c2 ⟨t2, rfl, by unfold fitsP; simp [rowsP]; omega⟩ hw h2
      · have t1 : (rowsP (out.take p)).isEmpty = false := by
          cases e : out.take p with
          | nil =>
            have := congrArg List.length e
            have hpos := List.length_pos_iff.2 hn
            rw [List.length_take, List.length_nil] at this
            omega
          | cons x r => rfl
        obtain ⟨a', b', d', h2⟩ := ih (out.take p ++ callS s4 :: out.drop p) (a + 1 + 1) (b + 1 + 1) (d + 1) hlen2
        rw [hnew] at h2
        refine ⟨a', b', d', ?_⟩
        have er : rowsP (out.take p ++ callS s4 :: out.drop p) = (([] ++ rowsP (out.take p)) ++ [rowC (callS s4)]) ++ rowsP (out.drop p) := by simp [rowsP, rowC, di]
        rw [er] at h2
        have ht : (rowsP (out.take p)).length ≤ out.length := by simp [rowsP]; omega
        have hd : (rowsP (out.drop p)).length ≤ out.length := by simp [rowsP]
        cases t2 : (rowsP (out.drop p)).isEmpty with
        | true => exact so_ft _ _ _ _ _ p _ _ _ _ _ _ s4 a b d _ _ hlen (dlt hlt) hrow hro p3 c1 ⟨t1, by unfold fitsP; omega⟩ ⟨rfl, rfl, by unfold fitsP; simp; omega⟩ c2 ⟨t2, rfl, by unfold fitsP; simp; omega⟩ hw h2
        | false => exact so_ff _ _ _ _ _ p _ _ _ _ _ _ s4 a b d _ _ hlen (dlt hlt) hrow hro p3 c1 ⟨t1, by unfold fitsP; omega⟩ ⟨rfl, rfl, by unfold fitsP; simp; omega⟩ c2 ⟨t2, rfl, by unfold fitsP; simp; omega⟩ hw h2
def sortedSpec : Spec
  | [.one (.v (.slice none 0 0))] => some [nilPV]
  | [.one (.sl 4 false rows)] => match allSome s4I rows with
    | some sp => if sp.length < 2 ^ 30 then some [.one (dvP (sortL [] (sp.map callS)))] else none
    | none => none
  | _ => none
theorem tok42 (x : Nat) : lookT x [] = lookT x (tk42 0 0 0) := by
  simp only [lookT, tk42]
  split
  · rfl
  · split
    · rfl
    · split <;> rfl
theorem sorted_sat : Sat C12 42 sortedSpec := by
  refine sat_of_ev (O := noO) hP12 (fun _ _ h => h.elim) hm0 fun ps rs hs => ?_
  unfold sortedSpec at hs
  split at hs
  · simp only [Option.some.injEq] at hs
    subst hs
    exact ⟨_, _, _, sc42z, rfl⟩
  · rename_i rows
    split at hs
    · rename_i sp hsp
      split at hs
      · rename_i hb
        simp only [Option.some.injEq] at hs
        subst hs
        obtain rfl : rows = rowsS sp := rows_eq (fun _ _ => s4I_eq) hsp
        obtain ⟨a', b', d', h⟩ := s_loop sp hb sp [] [] 0 0 0 rfl rfl
        have h' : Ev C12 noO (.code 42 false (loopOf Try.prog 42 0) (s42 (rowsS sp) (.v (.slice none 0 0)) 0 [])) (.code (.exit 0) { σ := slots 51 [(3, .d (dvP (sortL [] (sp.map callS))))], h := { toks := tk42 a' b' d' } }) :=
          .tokIn _ _ _ _ _ _ (tk42 0 0 0) tok42 h
        by_cases hn : sortL [] (sp.map callS) = []
        · have e : dvP (sortL [] (sp.map callS)) = .v (.slice none 0 0) := if_pos hn
          rw [e] at h' ⊢
          exact ⟨_, _, _, sc42n _ false _ h', rfl⟩
        · have e : dvP (sortL [] (sp.map callS)) = .sl 2 false (rowsP (sortL [] (sp.map callS))) := if_neg hn
          rw [e] at h' ⊢
          exact ⟨_, _, _, sc42s _ false _ _ h', rfl⟩
      · cases hs
    · cases hs
  · cases hs

end Go.Ev

namespace Go.Ev
open Go Go.RowKit Go.Proofs

def L11 : List (FuncId × Spec) := (26, rowsEqSpec) :: (42, sortedSpec) :: L10
noncomputable def C13 : Ctx := { P := Try.prog, prim := primL L11 }
theorem hP13 : PrimOK C13 := by
  have h1 : PrimOK { P := Try.prog, prim := primL ((42, sortedSpec) :: L10) } := primOK_cons hP12 rfl (by decide) sorted_sat rfl rfl rfl (by kernel_rfl)
  exact primOK_cons h1 rfl (by decide) (rowsEq_sat.ctx rfl rfl) rfl rfl rfl (by kernel_rfl)
/-- the function itself answers by S -/
noncomputable def CA (S : Spec) : Ctx := { P := Try.prog, prim := primL ((41, S) :: L11) }
def s41 (f : Bool) (r rc : List (List DV)) (yo yx : DV) (most i : Int) (tk : List (Nat × Nat)) : St :=
  { σ := slots 87 [(0, .d (.sl 7 f r)), (1, .d (.sl 2 false rc)), (2, .d yo), (3, .d yx), (4, vi most), (11, vi i)], h := { toks := tk } }
def b41 (c : Int × Int) (tk : List (Nat × Nat)) : H := { objs := [(site 41 12, 1, [.cells [vi c.1, vi c.2] false])], toks := tk }
def t41 (f : Bool) (r rc : List (List DV)) (yo yx : DV) (most i : Int) (c : Int × Int) (may : Bool) (k : Int) (tk : List (Nat × Nat)) : St :=
  { σ := slots 87 [(0, .d (.sl 7 f r)), (1, .d (.sl 2 false rc)), (2, .d yo), (3, .d yx), (4, vi most), (11, vi i), (12, .ptr (site 41 12) 0 0), (13, vb may), (14, vi k)], h := b41 c tk }
def e41 (f : Bool) (r rc : List (List DV)) (yo yx : DV) (most i : Int) (c : Int × Int) (may : Bool) (tk : List (Nat × Nat)) : St :=
  { σ := slots 87 [(0, .d (.sl 7 f r)), (1, .d (.sl 2 false rc)), (2, .d yo), (3, .d yx), (4, vi most), (11, vi i), (12, .ptr (site 41 12) 0 0), (13, vb may)], h := b41 c tk }
def f41 (yx : DV) (tk : List (Nat × Nat)) : St := { σ := slots 87 [(3, .d yx)], h := { toks := tk } }
theorem ii_e (S : Spec) (f : Bool) (r rc : List (List DV)) (yo yx : DV) (most i : Int) (k n : Int) (c : Int × Int) (tk : List (Nat × Nat)) (m : Bool) (h1 : (rc.length : Int) = n) (h2 : decide (k < n) = false) : Ev (CA S) noO (.code 41 false (loopOf Try.prog 41 1) (t41 f r rc yo yx most i c m k tk)) (.code (.exit 2) (e41 f r rc yo yx most i c m tk)) :=
  symM_ev (n := 60) (sc := [(site 41 46, Dec.int n), (site 41 47, Dec.b false)]) (keep := [0, 1, 2, 3, 4, 11, 12, 13]) (sc' := []) (by kernel_rfl) (AllP_cons h1 (AllP_cons h2 AllP_nil))
theorem ii_s (S : Spec) (f : Bool) (r rc : List (List DV)) (yo yx : DV) (most i : Int) (k n : Int) (c : Int × Int) (tk : List (Nat × Nat)) (h1 : (rc.length : Int) = n) (h2 : decide (k < n) = true) : Ev (CA S) noO (.code 41 false (loopOf Try.prog 41 1) (t41 f r rc yo yx most i c false k tk)) (.code (.exit 2) (e41 f r rc yo yx most i c false tk)) :=
  symM_ev (n := 60) (sc := [(site 41 46, Dec.int n), (site 41 47, Dec.b true)]) (keep := [0, 1, 2, 3, 4, 11, 12, 13]) (sc' := []) (by kernel_rfl) (AllP_cons h1 (AllP_cons h2 AllP_nil))
theorem ii_i (S : Spec) (f : Bool) (r rc : List (List DV)) (yo yx : DV) (most i : Int) (k n : Int) (c : Int × Int) (tk : List (Nat × Nat)) (k1 : Int) (y : Int × Int) (x : X) (s : St) (t : Bool) (h1 : (rc.length : Int) = n) (h2 : decide (k < n) = true) (h3 : 0 ≤ k ∧ rc[k.toNat]? = some (rowC y)) (h4 : freezeAll (b41 c tk) [.d yo, .agg [vi y.1, vi y.2]] = some ([.one yo, .agg (rowC y)], b41 c tk) ∧ inSpec [.one yo, .agg (rowC y)] = some [pbool t]) (h5 : (!(k == i)) = false) (h8 : wr64 (k + 1) = k1) (h9 : Ev (CA S) noO (.code 41 false (loopOf Try.prog 41 1) (t41 f r rc yo yx most i c true k1 tk)) (.code x s)) : Ev (CA S) noO (.code 41 false (loopOf Try.prog 41 1) (t41 f r rc yo yx most i c true k tk)) (.code x s) :=
  sym_ev 60 _ [(site 41 46, Dec.int n), (site 41 47, Dec.b true), (site 41 56, Dec.row (rowC y)), (site 41 58, Dec.primA [.one yo, .agg (rowC y)] [pbool t]), (site 41 61, Dec.b false), (site 41 52, Dec.int k1), (site 41 8001, Dec.loop [0, 1, 2, 3, 4, 11, 12, 13, 14] x s)] _ [] _ (by kernel_rfl) (AllP_cons h1 (AllP_cons h2 (AllP_cons h3 (AllP_cons h4 (AllP_cons h5 (AllP_cons h8 (AllP_cons h9 AllP_nil)))))))
theorem ii_h (S : Spec) (f : Bool) (r rc : List (List DV)) (yo yx : DV) (most i : Int) (k n : Int) (c : Int × Int) (tk : List (Nat × Nat)) (k1 : Int) (y : Int × Int) (x : X) (s : St) (h1 : (rc.length : Int) = n) (h2 : decide (k < n) = true) (h3 : 0 ≤ k ∧ rc[k.toNat]? = some (rowC y)) (h4 : freezeAll (b41 c tk) [.d yo, .agg [vi y.1, vi y.2]] = some ([.one yo, .agg (rowC y)], b41 c tk) ∧ inSpec [.one yo, .agg (rowC y)] = some [pbool true]) (h5 : (!(k == i)) = true) (h8 : wr64 (k + 1) = k1) (h9 : Ev (CA S) noO (.code 41 false (loopOf Try.prog 41 1) (t41 f r rc yo yx most i c true k1 tk)) (.code x s)) : Ev (CA S) noO (.code 41 false (loopOf Try.prog 41 1) (t41 f r rc yo yx most i c true k tk)) (.code x s) :=
  sym_ev 60 _ [(site 41 46, Dec.int n), (site 41 47, Dec.b true), (site 41 56, Dec.row (rowC y)), (site 41 58, Dec.primA [.one yo, .agg (rowC y)] [pbool true]), (site 41 61, Dec.b true), (site 41 52, Dec.int k1), (site 41 8001, Dec.loop [0, 1, 2, 3, 4, 11, 12, 13, 14] x s)] _ [] _ (by kernel_rfl) (AllP_cons h1 (AllP_cons h2 (AllP_cons h3 (AllP_cons h4 (AllP_cons h5 (AllP_cons h8 (AllP_cons h9 AllP_nil)))))))
theorem ii_f (S : Spec) (f : Bool) (r rc : List (List DV)) (yo yx : DV) (most i : Int) (k n : Int) (c : Int × Int) (tk : List (Nat × Nat)) (k1 : Int) (y : Int × Int) (x : X) (s : St) (h1 : (rc.length : Int) = n) (h2 : decide (k < n) = true) (h3 : 0 ≤ k ∧ rc[k.toNat]? = some (rowC y)) (h4 : freezeAll (b41 c tk) [.d yo, .agg [vi y.1, vi y.2]] = some ([.one yo, .agg (rowC y)], b41 c tk) ∧ inSpec [.one yo, .agg (rowC y)] = some [pbool false]) (h5 : (!(k == i)) = true) (h6 : refBeforeSpec [.one (.sl 7 f r), .agg (rowC y), .agg (rowC c)] = some [pbool false]) (h8 : wr64 (k + 1) = k1) (h9 : Ev (CA S) noO (.code 41 false (loopOf Try.prog 41 1) (t41 f r rc yo yx most i c true k1 tk)) (.code x s)) : Ev (CA S) noO (.code 41 false (loopOf Try.prog 41 1) (t41 f r rc yo yx most i c true k tk)) (.code x s) :=
  sym_ev 60 _ [(site 41 46, Dec.int n), (site 41 47, Dec.b true), (site 41 56, Dec.row (rowC y)), (site 41 58, Dec.primA [.one yo, .agg (rowC y)] [pbool false]), (site 41 61, Dec.b true), (site 41 70, Dec.row (rowC y)), (site 41 73, Dec.prim [pbool false]), (site 41 52, Dec.int k1), (site 41 8001, Dec.loop [0, 1, 2, 3, 4, 11, 12, 13, 14] x s)] _ [] _ (by kernel_rfl) (AllP_cons h1 (AllP_cons h2 (AllP_cons h3 (AllP_cons h4 (AllP_cons h5 (AllP_cons h3 (AllP_cons h6 (AllP_cons h8 (AllP_cons h9 AllP_nil)))))))))
theorem ii_b (S : Spec) (f : Bool) (r rc : List (List DV)) (yo yx : DV) (most i : Int) (k n : Int) (c : Int × Int) (tk : List (Nat × Nat)) (k1 : Int) (y : Int × Int) (x : X) (s : St) (h1 : (rc.length : Int) = n) (h2 : decide (k < n) = true) (h3 : 0 ≤ k ∧ rc[k.toNat]? = some (rowC y)) (h4 : freezeAll (b41 c tk) [.d yo, .agg [vi y.1, vi y.2]] = some ([.one yo, .agg (rowC y)], b41 c tk) ∧ inSpec [.one yo, .agg (rowC y)] = some [pbool false]) (h5 : (!(k == i)) = true) (h6 : refBeforeSpec [.one (.sl 7 f r), .agg (rowC y), .agg (rowC c)] = some [pbool true]) (h8 : wr64 (k + 1) = k1) (h9 : Ev (CA S) noO (.code 41 false (loopOf Try.prog 41 1) (t41 f r rc yo yx most i c false k1 tk)) (.code x s)) : Ev (CA S) noO (.code 41 false (loopOf Try.prog 41 1) (t41 f r rc yo yx most i c true k tk)) (.code x s) :=
  sym_ev 60 _ [(site 41 46, Dec.int n), (site 41 47, Dec.b true), (site 41 56, Dec.row (rowC y)), (site 41 58, Dec.primA [.one yo, .agg (rowC y)] [pbool false]), (site 41 61, Dec.b true), (site 41 70, Dec.row (rowC y)), (site 41 73, Dec.prim [pbool true]), (site 41 52, Dec.int k1), (site 41 8001, Dec.loop [0, 1, 2, 3, 4, 11, 12, 13, 14] x s)] _ [] _ (by kernel_rfl) (AllP_cons h1 (AllP_cons h2 (AllP_cons h3 (AllP_cons h4 (AllP_cons h5 (AllP_cons h3 (AllP_cons h6 (AllP_cons h8 (AllP_cons h9 AllP_nil)))))))))
theorem oo_e (S : Spec) (f : Bool) (r rc : List (List DV)) (yo yx : DV) (most i : Int) (n : Int) (tk : List (Nat × Nat)) (h1 : (rc.length : Int) = n) (h2 : decide (i < n) = false) : Ev (CA S) noO (.code 41 false (loopOf Try.prog 41 0) (s41 f r rc yo yx most i tk)) (.code (.exit 0) (f41 yx tk)) :=
  symM_ev (n := 60) (sc := [(site 41 32, Dec.int n), (site 41 33, Dec.b false)]) (keep := [3]) (sc' := []) (by kernel_rfl) (AllP_cons h1 (AllP_cons h2 AllP_nil))
theorem oo_f (S : Spec) (f : Bool) (r rc : List (List DV)) (yo yx : DV) (most i : Int) (n i1 : Int) (c : Int × Int) (t : Bool) (x : X) (s : St) (tk : List (Nat × Nat)) (h1 : (rc.length : Int) = n) (h2 : decide (i < n) = true) (h3 : 0 ≤ i ∧ rc[i.toNat]? = some (rowC c)) (h4 : freezeAll (b41 c tk) [.d yo, .agg [vi c.1, vi c.2]] = some ([.one yo, .agg (rowC c)], b41 c tk) ∧ inSpec [.one yo, .agg (rowC c)] = some [pbool t]) (h5 : Ev (CA S) noO (.code 41 false (loopOf Try.prog 41 1) (t41 f r rc yo yx most i c (!t) 0 tk)) (.code (.exit 2) (e41 f r rc yo yx most i c false tk))) (h8 : wr64 (i + 1) = i1) (h9 : Ev (CA S) noO (.code 41 false (loopOf Try.prog 41 0) (s41 f r rc yo yx most i1 tk)) (.code x s)) (hfr : yx = .v (.slice none 0 0) ∨ ∃ rx, yx = .sl 1 false rx) (hfo : yo = .v (.slice none 0 0) ∨ ∃ ro, yo = .sl 2 false ro) : Ev (CA S) noO (.code 41 false (loopOf Try.prog 41 0) (s41 f r rc yo yx most i tk)) (.code x s) :=
  sym_ev 60 _ [(site 41 32, Dec.int n), (site 41 33, Dec.b true), (site 41 38, Dec.row (rowC c)), (site 41 42, Dec.primA [.one yo, .agg (rowC c)] [pbool t]), (site 41 8001, Dec.loop [0, 1, 2, 3, 4, 11, 12, 13, 14] (.exit 2) (e41 f r rc yo yx most i c false tk)), (site 41 35, Dec.int i1), (site 41 8002, Dec.drop [site 41 12] [0, 1, 2, 3, 4, 11]), (site 41 8001, Dec.loop [0, 1, 2, 3, 4, 11] x s)] _ [] _ (by kernel_rfl) (AllP_cons h1 (AllP_cons h2 (AllP_cons h3 (AllP_cons h4 (AllP_cons h5 (AllP_cons h8 (AllP_cons (rfl : true = true) (AllP_cons (rfl : true = true) (AllP_cons (rfl : true = true) (AllP_cons h9 AllP_nil))))))))))
theorem oo_tnn (S : Spec) (f : Bool) (r rc : List (List DV)) (most i : Int) (yx1 : DV) (a b d e : Nat) (n i1 : Int) (c : Int × Int) (t : Bool) (x : X) (s : St) (h1 : (rc.length : Int) = n) (h2 : decide (i < n) = true) (h3 : 0 ≤ i ∧ rc[i.toNat]? = some (rowC c)) (h4 : freezeAll (b41 c [(site 41 26, a), (site 41 29, b), (site 41 79, d), (site 41 82, e)]) [.d (.v (.slice none 0 0)), .agg [vi c.1, vi c.2]] = some ([.one (.v (.slice none 0 0)), .agg (rowC c)], b41 c [(site 41 26, a), (site 41 29, b), (site 41 79, d), (site 41 82, e)]) ∧ inSpec [.one (.v (.slice none 0 0)), .agg (rowC c)] = some [pbool t]) (h5 : Ev (CA S) noO (.code 41 false (loopOf Try.prog 41 1) (t41 f r rc (.v (.slice none 0 0)) (.v (.slice none 0 0)) most i c (!t) 0 [(site 41 26, a), (site 41 29, b), (site 41 79, d), (site 41 82, e)])) (.code (.exit 2) (e41 f r rc (.v (.slice none 0 0)) (.v (.slice none 0 0)) most i c true [(site 41 26, a), (site 41 29, b), (site 41 79, d), (site 41 82, e)]))) (ha : fitsP 0 1 16) (hs : S [.one (.sl 7 f r), .one (.sl 2 false rc), .one (.sl 2 false ([rowC c])), .one (.v (.slice none 0 0)), .one (di most)] = some [.one yx1])
    (h8 : wr64 (i + 1) = i1) (h9 : Ev (CA S) noO (.code 41 false (loopOf Try.prog 41 0) (s41 f r rc (.v (.slice none 0 0)) yx1 most i1 [(site 41 26, a), (site 41 29, b), (site 41 79, d), (site 41 82, e + 1)])) (.code x s)) : Ev (CA S) noO (.code 41 false (loopOf Try.prog 41 0) (s41 f r rc (.v (.slice none 0 0)) (.v (.slice none 0 0)) most i [(site 41 26, a), (site 41 29, b), (site 41 79, d), (site 41 82, e)])) (.code x s) :=
  sym_ev 60 _ [(site 41 32, Dec.int n), (site 41 33, Dec.b true), (site 41 38, Dec.row (rowC c)), (site 41 42, Dec.primA [.one (.v (.slice none 0 0)), .agg (rowC c)] [pbool t]), (site 41 8001, Dec.loop [0, 1, 2, 3, 4, 11, 12, 13, 14] (.exit 2) (e41 f r rc (.v (.slice none 0 0)) (.v (.slice none 0 0)) most i c true [(site 41 26, a), (site 41 29, b), (site 41 79, d), (site 41 82, e)])), (site 41 85, Dec.prim [.one yx1]), (site 41 35, Dec.int i1), (site 41 8002, Dec.drop [site 41 12] [0, 1, 2, 3, 4, 11]), (site 41 8001, Dec.loop [0, 1, 2, 3, 4, 11] x s)] _ [] _ (by kernel_rfl) (AllP_cons h1 (AllP_cons h2 (AllP_cons h3 (AllP_cons h4 (AllP_cons h5 (AllP_cons hs (AllP_cons h8 (AllP_cons (rfl : true = true) (AllP_cons (rfl : true = true) (AllP_cons (rfl : true = true) (AllP_cons h9 AllP_nil)))))))))))
theorem oo_tns (S : Spec) (f : Bool) (r rc : List (List DV)) (most i : Int) (rx : List (List DV)) (yx1 : DV) (a b d e : Nat) (n i1 : Int) (c : Int × Int) (t : Bool) (x : X) (s : St) (h1 : (rc.length : Int) = n) (h2 : decide (i < n) = true) (h3 : 0 ≤ i ∧ rc[i.toNat]? = some (rowC c)) (h4 : freezeAll (b41 c [(site 41 26, a), (site 41 29, b), (site 41 79, d), (site 41 82, e)]) [.d (.v (.slice none 0 0)), .agg [vi c.1, vi c.2]] = some ([.one (.v (.slice none 0 0)), .agg (rowC c)], b41 c [(site 41 26, a), (site 41 29, b), (site 41 79, d), (site 41 82, e)]) ∧ inSpec [.one (.v (.slice none 0 0)), .agg (rowC c)] = some [pbool t]) (h5 : Ev (CA S) noO (.code 41 false (loopOf Try.prog 41 1) (t41 f r rc (.v (.slice none 0 0)) (.sl 1 false rx) most i c (!t) 0 [(site 41 26, a), (site 41 29, b), (site 41 79, d), (site 41 82, e)])) (.code (.exit 2) (e41 f r rc (.v (.slice none 0 0)) (.sl 1 false rx) most i c true [(site 41 26, a), (site 41 29, b), (site 41 79, d), (site 41 82, e)]))) (ha : fitsP 0 1 16) (hs : S [.one (.sl 7 f r), .one (.sl 2 false rc), .one (.sl 2 false ([rowC c])), .one (.sl 1 false rx), .one (di most)] = some [.one yx1])
    (h8 : wr64 (i + 1) = i1) (h9 : Ev (CA S) noO (.code 41 false (loopOf Try.prog 41 0) (s41 f r rc (.v (.slice none 0 0)) yx1 most i1 [(site 41 26, a), (site 41 29, b), (site 41 79, d), (site 41 82, e + 1)])) (.code x s)) : Ev (CA S) noO (.code 41 false (loopOf Try.prog 41 0) (s41 f r rc (.v (.slice none 0 0)) (.sl 1 false rx) most i [(site 41 26, a), (site 41 29, b), (site 41 79, d), (site 41 82, e)])) (.code x s) :=
  sym_ev 60 _ [(site 41 32, Dec.int n), (site 41 33, Dec.b true), (site 41 38, Dec.row (rowC c)), (site 41 42, Dec.primA [.one (.v (.slice none 0 0)), .agg (rowC c)] [pbool t]), (site 41 8001, Dec.loop [0, 1, 2, 3, 4, 11, 12, 13, 14] (.exit 2) (e41 f r rc (.v (.slice none 0 0)) (.sl 1 false rx) most i c true [(site 41 26, a), (site 41 29, b), (site 41 79, d), (site 41 82, e)])), (site 41 85, Dec.prim [.one yx1]), (site 41 35, Dec.int i1), (site 41 8002, Dec.drop [site 41 12] [0, 1, 2, 3, 4, 11]), (site 41 8001, Dec.loop [0, 1, 2, 3, 4, 11] x s)] _ [] _ (by kernel_rfl) (AllP_cons h1 (AllP_cons h2 (AllP_cons h3 (AllP_cons h4 (AllP_cons h5 (AllP_cons hs (AllP_cons h8 (AllP_cons (rfl : true = true) (AllP_cons (rfl : true = true) (AllP_cons (rfl : true = true) (AllP_cons h9 AllP_nil)))))))))))
theorem oo_tsn (S : Spec) (f : Bool) (r rc : List (List DV)) (most i : Int) (ro : List (List DV)) (yx1 : DV) (a b d e : Nat) (n i1 : Int) (c : Int × Int) (t : Bool) (x : X) (s : St) (h1 : (rc.length : Int) = n) (h2 : decide (i < n) = true) (h3 : 0 ≤ i ∧ rc[i.toNat]? = some (rowC c)) (h4 : freezeAll (b41 c [(site 41 26, a), (site 41 29, b), (site 41 79, d), (site 41 82, e)]) [.d (.sl 2 false ro), .agg [vi c.1, vi c.2]] = some ([.one (.sl 2 false ro), .agg (rowC c)], b41 c [(site 41 26, a), (site 41 29, b), (site 41 79, d), (site 41 82, e)]) ∧ inSpec [.one (.sl 2 false ro), .agg (rowC c)] = some [pbool t]) (h5 : Ev (CA S) noO (.code 41 false (loopOf Try.prog 41 1) (t41 f r rc (.sl 2 false ro) (.v (.slice none 0 0)) most i c (!t) 0 [(site 41 26, a), (site 41 29, b), (site 41 79, d), (site 41 82, e)])) (.code (.exit 2) (e41 f r rc (.sl 2 false ro) (.v (.slice none 0 0)) most i c true [(site 41 26, a), (site 41 29, b), (site 41 79, d), (site 41 82, e)]))) (ha : ro.isEmpty = false ∧ fitsP 0 ro.length 16) (hb : false = false ∧ d + 1 = d + 1 ∧ fitsP ([] ++ ro).length 1 16) (hs : S [.one (.sl 7 f r), .one (.sl 2 false rc), .one (.sl 2 false (([] ++ ro) ++ [rowC c])), .one (.v (.slice none 0 0)), .one (di most)] = some [.one yx1])
    (h8 : wr64 (i + 1) = i1) (h9 : Ev (CA S) noO (.code 41 false (loopOf Try.prog 41 0) (s41 f r rc (.sl 2 false ro) yx1 most i1 [(site 41 26, a), (site 41 29, b), (site 41 79, d + 1 + 1), (site 41 82, e + 1)])) (.code x s)) : Ev (CA S) noO (.code 41 false (loopOf Try.prog 41 0) (s41 f r rc (.sl 2 false ro) (.v (.slice none 0 0)) most i [(site 41 26, a), (site 41 29, b), (site 41 79, d), (site 41 82, e)])) (.code x s) :=
  sym_ev 60 _ [(site 41 32, Dec.int n), (site 41 33, Dec.b true), (site 41 38, Dec.row (rowC c)), (site 41 42, Dec.primA [.one (.sl 2 false ro), .agg (rowC c)] [pbool t]), (site 41 8001, Dec.loop [0, 1, 2, 3, 4, 11, 12, 13, 14] (.exit 2) (e41 f r rc (.sl 2 false ro) (.v (.slice none 0 0)) most i c true [(site 41 26, a), (site 41 29, b), (site 41 79, d), (site 41 82, e)])), (site 41 79, Dec.app false), (site 41 82, Dec.app false), (site 41 85, Dec.prim [.one yx1]), (site 41 35, Dec.int i1), (site 41 8002, Dec.drop [site 41 12] [0, 1, 2, 3, 4, 11]), (site 41 8001, Dec.loop [0, 1, 2, 3, 4, 11] x s)] _ [] _ (by kernel_rfl) (AllP_cons h1 (AllP_cons h2 (AllP_cons h3 (AllP_cons h4 (AllP_cons h5 (AllP_cons ha (AllP_cons hb (AllP_cons hs (AllP_cons h8 (AllP_cons (rfl : true = true) (AllP_cons (rfl : true = true) (AllP_cons (rfl : true = true) (AllP_cons h9 AllP_nil)))))))))))))
theorem oo_tss (S : Spec) (f : Bool) (r rc : List (List DV)) (most i : Int) (ro : List (List DV)) (rx : List (List DV)) (yx1 : DV) (a b d e : Nat) (n i1 : Int) (c : Int × Int) (t : Bool) (x : X) (s : St) (h1 : (rc.length : Int) = n) (h2 : decide (i < n) = true) (h3 : 0 ≤ i ∧ rc[i.toNat]? = some (rowC c)) (h4 : freezeAll (b41 c [(site 41 26, a), (site 41 29, b), (site 41 79, d), (site 41 82, e)]) [.d (.sl 2 false ro), .agg [vi c.1, vi c.2]] = some ([.one (.sl 2 false ro), .agg (rowC c)], b41 c [(site 41 26, a), (site 41 29, b), (site 41 79, d), (site 41 82, e)]) ∧ inSpec [.one (.sl 2 false ro), .agg (rowC c)] = some [pbool t]) (h5 : Ev (CA S) noO (.code 41 false (loopOf Try.prog 41 1) (t41 f r rc (.sl 2 false ro) (.sl 1 false rx) most i c (!t) 0 [(site 41 26, a), (site 41 29, b), (site 41 79, d), (site 41 82, e)])) (.code (.exit 2) (e41 f r rc (.sl 2 false ro) (.sl 1 false rx) most i c true [(site 41 26, a), (site 41 29, b), (site 41 79, d), (site 41 82, e)]))) (ha : ro.isEmpty = false ∧ fitsP 0 ro.length 16) (hb : false = false ∧ d + 1 = d + 1 ∧ fitsP ([] ++ ro).length 1 16) (hs : S [.one (.sl 7 f r), .one (.sl 2 false rc), .one (.sl 2 false (([] ++ ro) ++ [rowC c])), .one (.sl 1 false rx), .one (di most)] = some [.one yx1])
    (h8 : wr64 (i + 1) = i1) (h9 : Ev (CA S) noO (.code 41 false (loopOf Try.prog 41 0) (s41 f r rc (.sl 2 false ro) yx1 most i1 [(site 41 26, a), (site 41 29, b), (site 41 79, d + 1 + 1), (site 41 82, e + 1)])) (.code x s)) : Ev (CA S) noO (.code 41 false (loopOf Try.prog 41 0) (s41 f r rc (.sl 2 false ro) (.sl 1 false rx) most i [(site 41 26, a), (site 41 29, b), (site 41 79, d), (site 41 82, e)])) (.code x s) :=
  sym_ev 60 _ [(site 41 32, Dec.int n), (site 41 33, Dec.b true), (site 41 38, Dec.row (rowC c)), (site 41 42, Dec.primA [.one (.sl 2 false ro), .agg (rowC c)] [pbool t]), (site 41 8001, Dec.loop [0, 1, 2, 3, 4, 11, 12, 13, 14] (.exit 2) (e41 f r rc (.sl 2 false ro) (.sl 1 false rx) most i c true [(site 41 26, a), (site 41 29, b), (site 41 79, d), (site 41 82, e)])), (site 41 79, Dec.app false), (site 41 82, Dec.app false), (site 41 85, Dec.prim [.one yx1]), (site 41 35, Dec.int i1), (site 41 8002, Dec.drop [site 41 12] [0, 1, 2, 3, 4, 11]), (site 41 8001, Dec.loop [0, 1, 2, 3, 4, 11] x s)] _ [] _ (by kernel_rfl) (AllP_cons h1 (AllP_cons h2 (AllP_cons h3 (AllP_cons h4 (AllP_cons h5 (AllP_cons ha (AllP_cons hb (AllP_cons hs (AllP_cons h8 (AllP_cons (rfl : true = true) (AllP_cons (rfl : true = true) (AllP_cons (rfl : true = true) (AllP_cons h9 AllP_nil)))))))))))))
theorem ca_fullnn (S : Spec) (f : Bool) (r rc : List (List DV)) (most m w : Int) (h19 : decide ((0 : Int) ≥ most) = true) : Ev (CA S) noO (.call 41 [.d (.sl 7 f r), .d (.sl 2 false rc), .d (.v (.slice none 0 0)), .d (.v (.slice none 0 0)), vi most] {}) (.val (.d (.v (.slice none 0 0))) {}) :=
  sym_ev 60 _ [(site 41 19, Dec.b true)] _ [] _ (by kernel_rfl) (AllP_cons h19 AllP_nil)
theorem ca_nonn (S : Spec) (f : Bool) (r rc : List (List DV)) (most m w : Int) (yx1 : DV) (tk : List (Nat × Nat)) (h19 : decide ((0 : Int) ≥ most) = false) (hf : refFitsSpec [.one (.sl 7 f r), .one (.v (.slice none 0 0))] = some [pint w]) (h24 : (w == 0) = false) (hl : Ev (CA S) noO (.code 41 false (loopOf Try.prog 41 0) (s41 f r rc (.v (.slice none 0 0)) (.v (.slice none 0 0)) most 0 [])) (.code (.exit 0) (f41 yx1 tk))) : Ev (CA S) noO (.call 41 [.d (.sl 7 f r), .d (.sl 2 false rc), .d (.v (.slice none 0 0)), .d (.v (.slice none 0 0)), vi most] {}) (.val (.d yx1) { toks := tk }) :=
  sym_ev 60 _ [(site 41 19, Dec.b false), (site 41 23, Dec.prim [pint w]), (site 41 24, Dec.b false), (site 41 8001, Dec.loop [0, 1, 2, 3, 4, 11] (.exit 0) (f41 yx1 tk))] _ [] _ (by kernel_rfl) (AllP_cons h19 (AllP_cons hf (AllP_cons h24 (AllP_cons hl AllP_nil))))
theorem ca_yesnn (S : Spec) (f : Bool) (r rc : List (List DV)) (most m w : Int) (yx1 : DV) (tk : List (Nat × Nat)) (h19 : decide ((0 : Int) ≥ most) = false) (hf : refFitsSpec [.one (.sl 7 f r), .one (.v (.slice none 0 0))] = some [pint w]) (h24 : (w == 0) = true) (ha : false = false ∧ fitsP 0 1 24) (hl : Ev (CA S) noO (.code 41 false (loopOf Try.prog 41 0) (s41 f r rc (.v (.slice none 0 0)) (.sl 1 false [[(.v (.slice none 0 0))]]) most 0 [(site 41 29, 1)])) (.code (.exit 0) (f41 yx1 tk))) : Ev (CA S) noO (.call 41 [.d (.sl 7 f r), .d (.sl 2 false rc), .d (.v (.slice none 0 0)), .d (.v (.slice none 0 0)), vi most] {}) (.val (.d yx1) { toks := tk }) :=
  sym_ev 60 _ [(site 41 19, Dec.b false), (site 41 23, Dec.prim [pint w]), (site 41 24, Dec.b true), (site 41 29, Dec.app false), (site 41 8005, Dec.val 3), (site 41 8001, Dec.loop [0, 1, 2, 3, 4, 11] (.exit 0) (f41 yx1 tk))] _ [] _ (by kernel_rfl) (AllP_cons h19 (AllP_cons hf (AllP_cons h24 (AllP_cons ha (AllP_cons hl AllP_nil)))))
theorem ca_fullns (S : Spec) (f : Bool) (r rc : List (List DV)) (most m w : Int) (rx : List (List DV)) (hn : (rx.length : Int) = m) (h19 : decide (m ≥ most) = true) : Ev (CA S) noO (.call 41 [.d (.sl 7 f r), .d (.sl 2 false rc), .d (.v (.slice none 0 0)), .d (.sl 1 false rx), vi most] {}) (.val (.d (.sl 1 false rx)) {}) :=
  sym_ev 60 _ [(site 41 17, Dec.int m), (site 41 19, Dec.b true)] _ [] _ (by kernel_rfl) (AllP_cons hn (AllP_cons h19 AllP_nil))
theorem ca_nons (S : Spec) (f : Bool) (r rc : List (List DV)) (most m w : Int) (rx : List (List DV)) (yx1 : DV) (tk : List (Nat × Nat)) (hn : (rx.length : Int) = m) (h19 : decide (m ≥ most) = false) (hf : refFitsSpec [.one (.sl 7 f r), .one (.v (.slice none 0 0))] = some [pint w]) (h24 : (w == 0) = false) (hl : Ev (CA S) noO (.code 41 false (loopOf Try.prog 41 0) (s41 f r rc (.v (.slice none 0 0)) (.sl 1 false rx) most 0 [])) (.code (.exit 0) (f41 yx1 tk))) : Ev (CA S) noO (.call 41 [.d (.sl 7 f r), .d (.sl 2 false rc), .d (.v (.slice none 0 0)), .d (.sl 1 false rx), vi most] {}) (.val (.d yx1) { toks := tk }) :=
  sym_ev 60 _ [(site 41 17, Dec.int m), (site 41 19, Dec.b false), (site 41 23, Dec.prim [pint w]), (site 41 24, Dec.b false), (site 41 8001, Dec.loop [0, 1, 2, 3, 4, 11] (.exit 0) (f41 yx1 tk))] _ [] _ (by kernel_rfl) (AllP_cons hn (AllP_cons h19 (AllP_cons hf (AllP_cons h24 (AllP_cons hl AllP_nil)))))
theorem ca_yesns (S : Spec) (f : Bool) (r rc : List (List DV)) (most m w : Int) (rx : List (List DV)) (yx1 : DV) (tk : List (Nat × Nat)) (hn : (rx.length : Int) = m) (h19 : decide (m ≥ most) = false) (hf : refFitsSpec [.one (.sl 7 f r), .one (.v (.slice none 0 0))] = some [pint w]) (h24 : (w == 0) = true) (ha : rx.isEmpty = false ∧ fitsP 0 rx.length 24) (hb : false = false ∧ 1 = 1 ∧ fitsP ([] ++ rx).length 1 24) (hl : Ev (CA S) noO (.code 41 false (loopOf Try.prog 41 0) (s41 f r rc (.v (.slice none 0 0)) (.sl 1 false (([] ++ rx) ++ [[(.v (.slice none 0 0))]])) most 0 [(site 41 26, 2), (site 41 29, 1)])) (.code (.exit 0) (f41 yx1 tk))) : Ev (CA S) noO (.call 41 [.d (.sl 7 f r), .d (.sl 2 false rc), .d (.v (.slice none 0 0)), .d (.sl 1 false rx), vi most] {}) (.val (.d yx1) { toks := tk }) :=
  sym_ev 60 _ [(site 41 17, Dec.int m), (site 41 19, Dec.b false), (site 41 23, Dec.prim [pint w]), (site 41 24, Dec.b true), (site 41 26, Dec.app false), (site 41 29, Dec.app false), (site 41 8005, Dec.val 3), (site 41 8001, Dec.loop [0, 1, 2, 3, 4, 11] (.exit 0) (f41 yx1 tk))] _ [] _ (by kernel_rfl) (AllP_cons hn (AllP_cons h19 (AllP_cons hf (AllP_cons h24 (AllP_cons ha (AllP_cons hb (AllP_cons hl AllP_nil)))))))
theorem ca_fullsn (S : Spec) (f : Bool) (r rc : List (List DV)) (most m w : Int) (ro : List (List DV)) (h19 : decide ((0 : Int) ≥ most) = true) : Ev (CA S) noO (.call 41 [.d (.sl 7 f r), .d (.sl 2 false rc), .d (.sl 2 false ro), .d (.v (.slice none 0 0)), vi most] {}) (.val (.d (.v (.slice none 0 0))) {}) :=
  sym_ev 60 _ [(site 41 19, Dec.b true)] _ [] _ (by kernel_rfl) (AllP_cons h19 AllP_nil)
theorem ca_nosn (S : Spec) (f : Bool) (r rc : List (List DV)) (most m w : Int) (ro : List (List DV)) (yx1 : DV) (tk : List (Nat × Nat)) (h19 : decide ((0 : Int) ≥ most) = false) (hf : refFitsSpec [.one (.sl 7 f r), .one (.sl 2 false ro)] = some [pint w]) (h24 : (w == 0) = false) (hl : Ev (CA S) noO (.code 41 false (loopOf Try.prog 41 0) (s41 f r rc (.sl 2 false ro) (.v (.slice none 0 0)) most 0 [])) (.code (.exit 0) (f41 yx1 tk))) : Ev (CA S) noO (.call 41 [.d (.sl 7 f r), .d (.sl 2 false rc), .d (.sl 2 false ro), .d (.v (.slice none 0 0)), vi most] {}) (.val (.d yx1) { toks := tk }) :=
  sym_ev 60 _ [(site 41 19, Dec.b false), (site 41 23, Dec.prim [pint w]), (site 41 24, Dec.b false), (site 41 8001, Dec.loop [0, 1, 2, 3, 4, 11] (.exit 0) (f41 yx1 tk))] _ [] _ (by kernel_rfl) (AllP_cons h19 (AllP_cons hf (AllP_cons h24 (AllP_cons hl AllP_nil))))
theorem ca_yessn (S : Spec) (f : Bool) (r rc : List (List DV)) (most m w : Int) (ro : List (List DV)) (yx1 : DV) (tk : List (Nat × Nat)) (h19 : decide ((0 : Int) ≥ most) = false) (hf : refFitsSpec [.one (.sl 7 f r), .one (.sl 2 false ro)] = some [pint w]) (h24 : (w == 0) = true) (ha : false = false ∧ fitsP 0 1 24) (hl : Ev (CA S) noO (.code 41 false (loopOf Try.prog 41 0) (s41 f r rc (.sl 2 false ro) (.sl 1 false [[(.sl 2 false ro)]]) most 0 [(site 41 29, 1)])) (.code (.exit 0) (f41 yx1 tk))) : Ev (CA S) noO (.call 41 [.d (.sl 7 f r), .d (.sl 2 false rc), .d (.sl 2 false ro), .d (.v (.slice none 0 0)), vi most] {}) (.val (.d yx1) { toks := tk }) :=
  sym_ev 60 _ [(site 41 19, Dec.b false), (site 41 23, Dec.prim [pint w]), (site 41 24, Dec.b true), (site 41 29, Dec.app false), (site 41 8005, Dec.val 3), (site 41 8001, Dec.loop [0, 1, 2, 3, 4, 11] (.exit 0) (f41 yx1 tk))] _ [] _ (by kernel_rfl) (AllP_cons h19 (AllP_cons hf (AllP_cons h24 (AllP_cons ha (AllP_cons hl AllP_nil)))))
theorem ca_fullss (S : Spec) (f : Bool) (r rc : List (List DV)) (most m w : Int) (ro : List (List DV)) (rx : List (List DV)) (hn : (rx.length : Int) = m) (h19 : decide (m ≥ most) = true) : Ev (CA S) noO (.call 41 [.d (.sl 7 f r), .d (.sl 2 false rc), .d (.sl 2 false ro), .d (.sl 1 false rx), vi most] {}) (.val (.d (.sl 1 false rx)) {}) :=
  sym_ev 60 _ [(site 41 17, Dec.int m), (site 41 19, Dec.b true)] _ [] _ (by kernel_rfl) (AllP_cons hn (AllP_cons h19 AllP_nil))
theorem ca_noss (S : Spec) (f : Bool) (r rc : List (List DV)) (most m w : Int) (ro : List (List DV)) (rx : List (List DV)) (yx1 : DV) (tk : List (Nat × Nat)) (hn : (rx.length : Int) = m) (h19 : decide (m ≥ most) = false) (hf : refFitsSpec [.one (.sl 7 f r), .one (.sl 2 false ro)] = some [pint w]) (h24 : (w == 0) = false) (hl : Ev (CA S) noO (.code 41 false (loopOf Try.prog 41 0) (s41 f r rc (.sl 2 false ro) (.sl 1 false rx) most 0 [])) (.code (.exit 0) (f41 yx1 tk))) : Ev (CA S) noO (.call 41 [.d (.sl 7 f r), .d (.sl 2 false rc), .d (.sl 2 false ro), .d (.sl 1 false rx), vi most] {}) (.val (.d yx1) { toks := tk }) :=
  sym_ev 60 _ [(site 41 17, Dec.int m), (site 41 19, Dec.b false), (site 41 23, Dec.prim [pint w]), (site 41 24, Dec.b false), (site 41 8001, Dec.loop [0, 1, 2, 3, 4, 11] (.exit 0) (f41 yx1 tk))] _ [] _ (by kernel_rfl) (AllP_cons hn (AllP_cons h19 (AllP_cons hf (AllP_cons h24 (AllP_cons hl AllP_nil)))))
theorem ca_yesss (S : Spec) (f : Bool) (r rc : List (List DV)) (most m w : Int) (ro : List (List DV)) (rx : List (List DV)) (yx1 : DV) (tk : List (Nat × Nat)) (hn : (rx.length : Int) = m) (h19 : decide (m ≥ most) = false) (hf : refFitsSpec [.one (.sl 7 f r), .one (.sl 2 false ro)] = some [pint w]) (h24 : (w == 0) = true) (ha : rx.isEmpty = false ∧ fitsP 0 rx.length 24) (hb : false = false ∧ 1 = 1 ∧ fitsP ([] ++ rx).length 1 24) (hl : Ev (CA S) noO (.code 41 false (loopOf Try.prog 41 0) (s41 f r rc (.sl 2 false ro) (.sl 1 false (([] ++ rx) ++ [[(.sl 2 false ro)]])) most 0 [(site 41 26, 2), (site 41 29, 1)])) (.code (.exit 0) (f41 yx1 tk))) : Ev (CA S) noO (.call 41 [.d (.sl 7 f r), .d (.sl 2 false rc), .d (.sl 2 false ro), .d (.sl 1 false rx), vi most] {}) (.val (.d yx1) { toks := tk }) :=
  sym_ev 60 _ [(site 41 17, Dec.int m), (site 41 19, Dec.b false), (site 41 23, Dec.prim [pint w]), (site 41 24, Dec.b true), (site 41 26, Dec.app false), (site 41 29, Dec.app false), (site 41 8005, Dec.val 3), (site 41 8001, Dec.loop [0, 1, 2, 3, 4, 11] (.exit 0) (f41 yx1 tk))] _ [] _ (by kernel_rfl) (AllP_cons hn (AllP_cons h19 (AllP_cons hf (AllP_cons h24 (AllP_cons ha (AllP_cons hb (AllP_cons hl AllP_nil)))))))
theorem cz_nt (S : Spec) (most : Int) (h19 : decide ((0 : Int) ≥ most) = true) : Ev (CA S) noO (.call 41 [.d (.v (.slice none 0 0)), .d (.v (.slice none 0 0)), .d (.v (.slice none 0 0)), .d (.v (.slice none 0 0)), vi most] {}) (.val (.d (.v (.slice none 0 0))) {}) :=
  sym_ev 60 _ [(site 41 19, Dec.b true)] _ [] _ (by kernel_rfl) (AllP_cons h19 AllP_nil)
theorem cz_nf (S : Spec) (most : Int) (h19 : decide ((0 : Int) ≥ most) = false) : Ev (CA S) noO (.call 41 [.d (.v (.slice none 0 0)), .d (.v (.slice none 0 0)), .d (.v (.slice none 0 0)), .d (.v (.slice none 0 0)), vi most] {}) (.val (.st 1 [[.v (.slice none 0 0)]] (site 41 29) 1) { toks := [(site 41 29, 1)] }) :=
  sym_ev 60 _ [(site 41 19, Dec.b false)] _ [] _ (by kernel_rfl) (AllP_cons h19 AllP_nil)
theorem cz_et (S : Spec) (f : Bool) (most : Int) (h19 : decide ((0 : Int) ≥ most) = true) : Ev (CA S) noO (.call 41 [.d (.sl 7 f []), .d (.v (.slice none 0 0)), .d (.v (.slice none 0 0)), .d (.v (.slice none 0 0)), vi most] {}) (.val (.d (.v (.slice none 0 0))) {}) :=
  sym_ev 60 _ [(site 41 19, Dec.b true)] _ [] _ (by kernel_rfl) (AllP_cons h19 AllP_nil)
theorem cz_ef (S : Spec) (f : Bool) (most : Int) (h19 : decide ((0 : Int) ≥ most) = false) : Ev (CA S) noO (.call 41 [.d (.sl 7 f []), .d (.v (.slice none 0 0)), .d (.v (.slice none 0 0)), .d (.v (.slice none 0 0)), vi most] {}) (.val (.st 1 [[.v (.slice none 0 0)]] (site 41 29) 1) { toks := [(site 41 29, 1)] }) :=
  sym_ev 60 _ [(site 41 19, Dec.b false)] _ [] _ (by kernel_rfl) (AllP_cons h19 AllP_nil)

end Go.Ev

namespace Go.Ev
open Go Go.RowKit Go.Proofs

theorem told_app (m : Nat) (O A B : List (List (Int × Int))) : (told m O (A ++ B)).1 = (told m (told m O A).1 B).1 := by
  simp only [told]
  rw [← List.append_assoc]
  by_cases h : (O ++ A).length ≤ m
  · rw [List.take_of_length_le (l := O ++ A) h]
  · have h1 : ((O ++ A).take m).length = m := by rw [List.length_take]; omega
    have e1 : (O ++ A ++ B).take m = (O ++ A).take m := List.take_append_of_le_length (by omega)
    have e2 : ((O ++ A).take m ++ B).take m = (O ++ A).take m := by rw [List.take_append_of_le_length (by omega), List.take_take, Nat.min_self]
    rw [e1, e2]
theorem told_stop {m : Nat} {O : List (List (Int × Int))} (E : List (List (Int × Int))) (h : O.length = m) : (told m O E).1 = O := by
  simp only [told]
  rw [List.take_append_of_le_length (by omega), List.take_of_length_le (by omega)]
def dvX (O : List (List (Int × Int))) : DV := if O = [] then .v (.slice none 0 0) else .sl 1 false (rowsO O)
def decO : DV → Option (List (Int × Int))
  | .v (.slice none 0 0) => some []
  | .sl 2 false rows => if rows.isEmpty then none else allSome rowI rows
  | _ => none
def decX : DV → Option (List (List (Int × Int)))
  | .v (.slice none 0 0) => some []
  | .sl 1 false rows => if rows.isEmpty then none else allSome (fun row => match row with | [dv] => decO dv | _ => none) rows
  | _ => none
theorem decO_eq {dv : DV} {o : List (Int × Int)} (h : decO dv = some o) : dv = dvO o := by
  unfold decO at h
  split at h
  · simp only [Option.some.injEq] at h; subst h; rfl
  · rename_i rows
    split at h
    · cases h
    · rename_i hne
      have e : rows = rowsP o := rows_eq (g := fun c : Int × Int => ([.v (.int .i64 c.1), .v (.int .i64 c.2)] : List DV)) (fun _ _ => rowI_eq) h
      subst e
      cases o with
      | nil => simp [rowsP] at hne
      | cons a r => rfl
  · cases h
theorem decO_dv (o : List (Int × Int)) : decO (dvO o) = some o := by
  cases o with
  | nil => rfl
  | cons a r =>
    have e1 : allSome rowI (rowsP (a :: r)) = some (a :: r) := by unfold rowsP; exact allSome_map rowI_P _
    show (if (rowsP (a :: r)).isEmpty then none else allSome rowI (rowsP (a :: r))) = _
    rw [if_neg (by simp [rowsP]), e1]
theorem decX_eq {dv : DV} {O : List (List (Int × Int))} (h : decX dv = some O) : dv = dvX O := by
  unfold decX at h
  split at h
  · simp only [Option.some.injEq] at h; subst h; rfl
  · rename_i rows
    split at h
    · cases h
    · rename_i hne
      have e : rows = rowsO O := rows_eq (g := fun o : List (Int × Int) => [dvO o]) (fun row o ho => by
        split at ho
        · rw [decO_eq ho]
        · cases ho) h
      subst e
      unfold dvX
      rw [if_neg (by rintro rfl; simp [rowsO] at hne)]
  · cases h
theorem decX_dv (O : List (List (Int × Int))) : decX (dvX O) = some O := by
  unfold dvX
  split
  · rename_i h; subst h; rfl
  · rename_i h
    have e1 : allSome (fun row => match row with | [dv] => decO dv | _ => none) (rowsO O) = some O := by
      unfold rowsO; exact allSome_map (g := fun o : List (Int × Int) => [dvO o]) (f := fun row => match row with | [dv] => decO dv | _ => none) (fun o => decO_dv o) O
    show (if (rowsO O).isEmpty then none else _) = _
    rw [if_neg (by simpa [rowsO] using h), e1]
theorem dvO_calls (o : List (Int × Int)) : callsOf (.one (dvO o)) = some o := by
  cases o with
  | nil => rfl
  | cons a r => exact callsOf_sl false (a :: r)

/-! ### the inner loop -/
def prevB (l : List Evt) (o : List (Int × Int)) (c y : Int × Int) : Bool := !o.contains y && beforeB l y c
theorem rin_at {o : List (Int × Int)} (ho : o.length < 2 ^ 40) (c y : Int × Int) (tk : List (Nat × Nat)) : freezeAll (b41 c tk) [.d (dvO o), .agg [vi y.1, vi y.2]] = some ([.one (dvO o), .agg (rowC y)], b41 c tk) ∧ inSpec [.one (dvO o), .agg (rowC y)] = some [pbool (o.contains y)] := by
  refine ⟨?_, ?_⟩
  · cases o with
    | nil => rfl
    | cons a r => rfl
  · have h1 := dvO_calls o
    have h2 : pairOf (.agg (rowC y)) = some y := rfl
    simp only [inSpec, h1, h2, ho, if_true]
theorem rbef_at {f : Bool} {l : List Evt} (hb : l.length < 2 ^ 40) (y c : Int × Int) : refBeforeSpec [.one (.sl 7 f (evRows l)), .agg (rowC y), .agg (rowC c)] = some [pbool (beforeB l y c)] := by
  have hpa : pairOf (.agg (rowC y)) = some y := rfl
  have hpb : pairOf (.agg (rowC c)) = some c := rfl
  simp only [refBeforeSpec, evtsOf_sl, hpa, hpb, hb, if_true, before_eq]
section
variable {S : Spec} {f : Bool} {l : List Evt} (hr : rightB l = true) (hb : l.length < 2 ^ 40) {cs o : List (Int × Int)} (hcs : cs.length ≤ 7) (ho : o.length < 2 ^ 40)
include hr hb hcs ho
theorem ii_loop (yx : DV) (most : Int) (i : Nat) {c : Int × Int} (hc : cs[i]? = some c) (tk : List (Nat × Nat)) : ∀ (rest pre : List (Int × Int)) (m : Bool), pre ++ rest = cs →
    Ev (CA S) noO (.code 41 false (loopOf Try.prog 41 1) (t41 f (evRows l) (rowsP cs) (dvO o) yx most (i : Nat) c m (pre.length : Nat) tk)) (.code (.exit 2) (e41 f (evRows l) (rowsP cs) (dvO o) yx most (i : Nat) c (m && !rest.any (prevB l o c)) tk))
  | [], pre, m, h => by
    have e : (m && !([] : List (Int × Int)).any (prevB l o c)) = m := by simp
    rw [e]
    exact ii_e S f _ _ _ yx most _ _ (cs.length : Nat) c tk m (by simp [rowsP]) (dge (by subst h; simp))
  | y :: rest, pre, false, h => by
    have hlt := pre_lt h
    exact ii_s S f _ _ _ yx most _ _ (cs.length : Nat) c tk (by simp [rowsP]) (dlt hlt)
  | y :: rest, pre, true, h => by
    have hlt := pre_lt h
    have hrow := row_at (g := rowC) h
    have ih := fun m => ii_loop yx most i hc tk rest (pre ++ [y]) m (pre_snoc h)
    simp only [len_snoc] at ih
    have hlen : (((rowsP cs).length : Nat) : Int) = (cs.length : Nat) := by simp [rowsP]
    have hw : wr64 ((pre.length : Nat) + 1) = ((pre.length + 1 : Nat) : Int) := wrap_succ (by omega)
    have hin := rin_at ho c y tk
    rw [List.any_cons]
    by_cases hki : pre.length = i
    · have hy : y = c := by
        have : cs[pre.length]? = some y := by rw [← h]; simp
        rw [hki, hc] at this
        simpa using this.symm
      have e : prevB l o c y = false := by unfold prevB; rw [hy, before_irr hr]; simp
      rw [e, Bool.false_or]
      exact ii_i S f _ _ _ yx most _ _ (cs.length : Nat) c tk _ y _ _ (o.contains y) hlen (dlt hlt) hrow hin (by simp [hki]) hw (ih true)
    · have hne : (!(((pre.length : Nat) : Int) == ((i : Nat) : Int))) = true := by simp; omega
      cases ht : o.contains y with
      | true =>
        rw [ht] at hin
        have e : prevB l o c y = false := by unfold prevB; rw [ht]; rfl
        rw [e, Bool.false_or]
        exact ii_h S f _ _ _ yx most _ _ (cs.length : Nat) c tk _ y _ _ hlen (dlt hlt) hrow hin hne hw (ih true)
      | false =>
        rw [ht] at hin
        have hbf := rbef_at (f := f) hb y c
        cases hbe : beforeB l y c with
        | true =>
          rw [hbe] at hbf
          have e : prevB l o c y = true := by unfold prevB; rw [ht, hbe]; rfl
          rw [e, Bool.true_or]
          have ih2 := ih false
          simp only [Bool.false_and] at ih2
          exact ii_b S f _ _ _ yx most _ _ (cs.length : Nat) c tk _ y _ _ hlen (dlt hlt) hrow hin hne hbf hw ih2
        | false =>
          rw [hbe] at hbf
          have e : prevB l o c y = false := by unfold prevB; rw [ht, hbe]; rfl
          rw [e, Bool.false_or]
          exact ii_f S f _ _ _ yx most _ _ (cs.length : Nat) c tk _ y _ _ hlen (dlt hlt) hrow hin hne hbf hw (ih true)
end
theorem blocked_prev {l : List Evt} (hr : rightB l = true) {cs o : List (Int × Int)} (hcs : ∀ c ∈ cs, 0 ≤ placeI c false l) {c : Int × Int} (hc : c ∈ cs) : blockedB (metL 0 l []) cs o c = cs.any (prevB l o c) := by
  unfold blockedB
  have : ∀ L : List (Int × Int), (∀ y ∈ L, y ∈ cs) → (L.any fun y => !o.contains y && aheadI ((getKV y (metL 0 l [])).getD (0, 0)) ((getKV c (metL 0 l [])).getD (0, 0))) = L.any (prevB l o c) := by
    intro L
    induction L with
    | nil => intro _; rfl
    | cons y r ih =>
      intro h
      rw [List.any_cons, List.any_cons, ih fun z hz => h z (by simp [hz]), ahead_before hr (hcs y (h y (by simp))) (hcs c hc)]
      rfl
  exact this cs fun _ h => h

end Go.Ev

namespace Go.Ev
open Go Go.RowKit Go.Proofs

def tk4 (a b d e : Nat) : List (Nat × Nat) := [(site 41 26, a), (site 41 29, b), (site 41 79, d), (site 41 82, e)]
theorem tok4 (b d : Nat) (tk : List (Nat × Nat)) (h : tk = [] ∧ b = 0 ∧ d = 0 ∨ tk = [(site 41 29, d)] ∧ b = 0 ∨ tk = [(site 41 26, b), (site 41 29, d)]) (x : Nat) : lookT x tk = lookT x (tk4 b d 0 0) := by
  have n1 : ¬ site 41 26 = site 41 29 := by decide
  have n2 : ¬ site 41 26 = site 41 79 := by decide
  have n3 : ¬ site 41 26 = site 41 82 := by decide
  have n4 : ¬ site 41 29 = site 41 79 := by decide
  have n5 : ¬ site 41 29 = site 41 82 := by decide
  rcases h with ⟨rfl, rfl, rfl⟩ | ⟨rfl, rfl⟩ | rfl
  · simp only [lookT, tk4]; (repeat' split) <;> rfl
  · simp only [lookT, tk4]
    by_cases h1 : site 41 26 = x
    · subst h1; simp [n1, Ne.symm n1]
    · have : (site 41 26 == x) = false := by simpa using h1
      simp only [this, Bool.false_eq_true, if_false]
      (repeat' split) <;> rfl
  · simp only [lookT, tk4]; (repeat' split) <;> rfl
theorem rfit_at {f : Bool} {l : List Evt} {o : List (Int × Int)} (hb : l.length < 2 ^ 40) (ho : o.length < 2 ^ 40) : refFitsSpec [.one (.sl 7 f (evRows l)), .one (dvO o)] = some [pint (fitsB l o)] := by
  simp only [refFitsSpec, evtsOf_sl, dvO_calls, hb, ho, and_self, if_true, fits_eq]
theorem dvX_ne {O : List (List (Int × Int))} (h : O ≠ []) : dvX O = .sl 1 false (rowsO O) := if_neg h
theorem dvX_res (O : List (List (Int × Int))) (H1 : H) : resA H1 (.d (dvX O)) = some ([.one (dvX O)], H1) := by
  unfold dvX
  split
  · rfl
  · rfl
section
variable {S : Spec} {f : Bool} {l : List Evt} (hr : rightB l = true) (hb : l.length < 2 ^ 40) {cs o : List (Int × Int)} (hcs : cs.length ≤ 7) (hcb : ∀ c ∈ cs, 0 ≤ placeI c false l) (ho : o.length < 2 ^ 30) {most : Nat} (hm : most ≤ 1000)
  {F : List (Int × Int) → List (List (Int × Int))}
  (hS : ∀ c ∈ cs, o.contains c = false → ∀ O : List (List (Int × Int)), O.length ≤ most → S [.one (.sl 7 f (evRows l)), .one (.sl 2 false (rowsP cs)), .one (dvO (o ++ [c])), .one (dvX O), .one (di (most : Nat))] = some [.one (dvX (told most O (F (o ++ [c]))).1)])
include hr hb hcs hcb ho hS
theorem oo_loop : ∀ (rest pre : List (Int × Int)) (O : List (List (Int × Int))) (a b d e : Nat), pre ++ rest = cs → O.length ≤ most →
    ∃ tk', Ev (CA S) noO (.code 41 false (loopOf Try.prog 41 0) (s41 f (evRows l) (rowsP cs) (dvO o) (dvX O) (most : Nat) (pre.length : Nat) (tk4 a b d e))) (.code (.exit 0) (f41 (dvX (told most O (rest.flatMap (tryC (metL 0 l []) cs F o))).1) tk'))
  | [], pre, O, a, b, d, e, h, hO => by
    refine ⟨tk4 a b d e, ?_⟩
    rw [List.flatMap_nil, told_nil hO]
    exact oo_e S f _ _ _ _ _ _ (cs.length : Nat) _ (by simp [rowsP]) (dge (by subst h; simp))
  | c :: rest, pre, O, a, b, d, e, h, hO => by
    have hlt := pre_lt h
    have hrow := row_at (g := rowC) h
    have ih := fun O a b d e hO => oo_loop rest (pre ++ [c]) O a b d e (pre_snoc h) hO
    simp only [len_snoc] at ih
    have hlen : (((rowsP cs).length : Nat) : Int) = (cs.length : Nat) := by simp [rowsP]
    have hw : wr64 ((pre.length : Nat) + 1) = ((pre.length + 1 : Nat) : Int) := wrap_succ (by omega)
    have hcm : c ∈ cs := by rw [← h]; simp
    have hci : cs[pre.length]? = some c := by rw [← h]; simp
    have hin := rin_at (o := o) (by omega) c c (tk4 a b d e)
    have hii := ii_loop (S := S) (f := f) hr hb hcs (o := o) (by omega) (dvX O) (most : Nat) pre.length hci (tk4 a b d e) cs [] (!o.contains c) rfl
    rw [List.flatMap_cons, told_app]
    have hfx : dvX O = .v (.slice none 0 0) ∨ ∃ rx, dvX O = .sl 1 false rx := by unfold dvX; split; exact .inl rfl; exact .inr ⟨_, rfl⟩
    have hfo : dvO o = .v (.slice none 0 0) ∨ ∃ ro, dvO o = .sl 2 false ro := by cases o; exact .inl rfl; exact .inr ⟨_, rfl⟩
    have hbp := blocked_prev hr (o := o) hcb hcm
    cases ht : o.contains c with
    | true =>
      rw [ht] at hin hii
      have et : tryC (metL 0 l []) cs F o c = [] := by simp only [tryC, ht, if_true]
      rw [et, told_nil hO]
      obtain ⟨tk', h2⟩ := ih O a b d e hO
      exact ⟨tk', oo_f S f _ _ _ _ _ _ (cs.length : Nat) _ c true _ _ _ hlen (dlt hlt) hrow hin hii hw h2 hfx hfo⟩
    | false =>
      rw [ht] at hin hii
      cases hbl : blockedB (metL 0 l []) cs o c with
      | true =>
        rw [← hbp, hbl] at hii
        have et : tryC (metL 0 l []) cs F o c = [] := by simp only [tryC, ht, hbl]; rfl
        rw [et, told_nil hO]
        obtain ⟨tk', h2⟩ := ih O a b d e hO
        exact ⟨tk', oo_f S f _ _ _ _ _ _ (cs.length : Nat) _ c false _ _ _ hlen (dlt hlt) hrow hin hii hw h2 hfx hfo⟩
      | false =>
        rw [← hbp, hbl] at hii
        have et : tryC (metL 0 l []) cs F o c = F (o ++ [c]) := by simp only [tryC, ht, hbl]; rfl
        rw [et]
        have hs := hS c hcm ht O hO
        have hO' := told_len most O (F (o ++ [c]))
        generalize hO1 : (told most O (F (o ++ [c]))).1 = O1 at hs hO' ⊢
        cases o with
        | nil =>
          obtain ⟨tk', h2⟩ := ih O1 a b d (e + 1) hO'
          refine ⟨tk', ?_⟩
          by_cases hn : O = []
          · subst hn
            exact oo_tnn S f _ _ _ _ _ a b d e (cs.length : Nat) _ c false _ _ hlen (dlt hlt) hrow hin hii (by unfold fitsP; omega) hs hw h2
          · rw [dvX_ne hn] at hii hs ⊢
            exact oo_tns S f _ _ _ _ _ _ a b d e (cs.length : Nat) _ c false _ _ hlen (dlt hlt) hrow hin hii (by unfold fitsP; omega) hs hw h2
        | cons x q =>
          obtain ⟨tk', h2⟩ := ih O1 a b (d + 1 + 1) (e + 1) hO'
          refine ⟨tk', ?_⟩
          have en : dvO ((x :: q) ++ [c]) = .sl 2 false (([] ++ rowsP (x :: q)) ++ [rowC c]) := by
            show DV.sl 2 false (rowsP (x :: (q ++ [c]))) = _
            simp [rowsP, rowC, di]
          rw [en] at hs
          have hl : (rowsP (x :: q)).length = (x :: q).length := by simp [rowsP]
          have hne : (rowsP (x :: q)).isEmpty = false := rfl
          by_cases hn : O = []
          · subst hn
            exact oo_tsn S f _ _ _ _ (rowsP (x :: q)) _ a b d e (cs.length : Nat) _ c false _ _ hlen (dlt hlt) hrow hin hii ⟨hne, by unfold fitsP; omega⟩ ⟨rfl, rfl, by unfold fitsP; simp only [List.nil_append]; omega⟩ hs hw h2
          · rw [dvX_ne hn] at hii hs ⊢
            exact oo_tss S f _ _ _ _ (rowsP (x :: q)) _ _ a b d e (cs.length : Nat) _ c false _ _ hlen (dlt hlt) hrow hin hii ⟨hne, by unfold fitsP; omega⟩ ⟨rfl, rfl, by unfold fitsP; simp only [List.nil_append]; omega⟩ hs hw h2
include hm
theorem all_call (O : List (List (Int × Int))) (hO : O.length ≤ most) : ∃ h1, Ev (CA S) noO (.call 41 [.d (.sl 7 f (evRows l)), .d (.sl 2 false (rowsP cs)), .d (dvO o), .d (dvX O), vi (most : Nat)] {}) (.val (.d (dvX (told most O (selfL (metL 0 l []) o ++ cs.flatMap (tryC (metL 0 l []) cs F o))).1)) h1) ∨
    Ev (CA S) noO (.call 41 [.d (.sl 7 f (evRows l)), .d (.sl 2 false (rowsP cs)), .d (dvO o), .d (dvX O), vi (most : Nat)] {}) (.val (.d (dvX (told most O (selfL (metL 0 l []) o ++ cs.flatMap (tryC (metL 0 l []) cs F o))).1)) h1) := by
  have hfB : fitsB l o = fitsI (metL 0 l []) o := by unfold fitsB; rw [hr, if_pos rfl]
  have hfit := rfit_at (f := f) (l := l) (o := o) hb (by omega)
  rw [hfB] at hfit
  by_cases hfull : O.length = most
  · rw [told_stop _ hfull]
    cases o with
    | nil =>
      by_cases hn : O = []
      · subst hn
        exact ⟨_, .inl (ca_fullnn S f _ _ _ 0 0 (decide_eq_true (by simp at hfull; omega)))⟩
      · rw [dvX_ne hn]
        exact ⟨_, .inl (ca_fullns S f _ _ _ (O.length : Nat) 0 _ (by simp [rowsO]) (decide_eq_true (by omega)))⟩
    | cons x q =>
      by_cases hn : O = []
      · subst hn
        exact ⟨_, .inl (ca_fullsn S f _ _ _ 0 0 (rowsP (x :: q)) (decide_eq_true (by simp at hfull; omega)))⟩
      · rw [dvX_ne hn]
        exact ⟨_, .inl (ca_fullss S f _ _ _ (O.length : Nat) 0 (rowsP (x :: q)) _ (by simp [rowsO]) (decide_eq_true (by omega)))⟩
  · have hlt : O.length < most := by omega
    by_cases hf : fitsI (metL 0 l []) o = 0
    · have es : selfL (metL 0 l []) o = [o] := by unfold selfL; rw [if_pos hf]
      have hgo : (told most O [o]).1 = O ++ [o] := by simp only [told]; rw [List.take_of_length_le (by simp; omega)]
      rw [es, told_app, hgo]
      rw [hf] at hfit
      have hO1 : (O ++ [o]).length ≤ most := by simp; omega
      have hx1 : dvX (O ++ [o]) = .sl 1 false (rowsO (O ++ [o])) := dvX_ne (by simp)
      by_cases hn : O = []
      · subst hn
        obtain ⟨tk', h2⟩ := oo_loop hr hb hcs hcb ho hS cs [] ([] ++ [o]) 0 1 0 0 rfl hO1
        rw [hx1] at h2
        have h2' : Ev (CA S) noO (.code 41 false (loopOf Try.prog 41 0) (s41 f (evRows l) (rowsP cs) (dvO o) (.sl 1 false [[dvO o]]) (most : Nat) 0 [(site 41 29, 1)])) (.code (.exit 0) (f41 (dvX (told most ([] ++ [o]) (cs.flatMap (tryC (metL 0 l []) cs F o))).1) tk')) :=
          .tokIn _ _ _ _ _ _ (tk4 0 1 0 0) (tok4 0 1 _ (.inr (.inl ⟨rfl, rfl⟩))) h2
        cases o with
        | nil => exact ⟨_, .inl (ca_yesnn S f _ _ _ 0 _ _ tk' (decide_eq_false (by simp at hlt; omega)) hfit rfl ⟨rfl, by unfold fitsP; omega⟩ h2')⟩
        | cons x q => exact ⟨_, .inl (ca_yessn S f _ _ _ 0 _ (rowsP (x :: q)) _ tk' (decide_eq_false (by simp at hlt; omega)) hfit rfl ⟨rfl, by unfold fitsP; omega⟩ h2')⟩
      · obtain ⟨tk', h2⟩ := oo_loop hr hb hcs hcb ho hS cs [] (O ++ [o]) 2 1 0 0 rfl hO1
        have er : rowsO (O ++ [o]) = ([] ++ rowsO O) ++ [[dvO o]] := by simp [rowsO]
        rw [hx1, er] at h2
        have h2' : Ev (CA S) noO (.code 41 false (loopOf Try.prog 41 0) (s41 f (evRows l) (rowsP cs) (dvO o) (.sl 1 false (([] ++ rowsO O) ++ [[dvO o]])) (most : Nat) 0 [(site 41 26, 2), (site 41 29, 1)])) (.code (.exit 0) (f41 (dvX (told most (O ++ [o]) (cs.flatMap (tryC (metL 0 l []) cs F o))).1) tk')) :=
          .tokIn _ _ _ _ _ _ (tk4 2 1 0 0) (tok4 2 1 _ (.inr (.inr rfl))) h2
        have hl : (rowsO O).length = O.length := by simp [rowsO]
        have hne : (rowsO O).isEmpty = false := by cases O; exact absurd rfl hn; rfl
        rw [dvX_ne hn]
        cases o with
        | nil => exact ⟨_, .inl (ca_yesns S f _ _ _ (O.length : Nat) _ (rowsO O) _ tk' (by rw [hl]) (decide_eq_false (by omega)) hfit rfl ⟨hne, by unfold fitsP; omega⟩ ⟨rfl, rfl, by unfold fitsP; simp only [List.nil_append]; omega⟩ h2')⟩
        | cons x q => exact ⟨_, .inl (ca_yesss S f _ _ _ (O.length : Nat) _ (rowsP (x :: q)) (rowsO O) _ tk' (by rw [hl]) (decide_eq_false (by omega)) hfit rfl ⟨hne, by unfold fitsP; omega⟩ ⟨rfl, rfl, by unfold fitsP; simp only [List.nil_append]; omega⟩ h2')⟩
    · have es : selfL (metL 0 l []) o = [] := by unfold selfL; rw [if_neg hf]
      rw [es, List.nil_append]
      have hw : (fitsI (metL 0 l []) o == 0) = false := by simpa using hf
      obtain ⟨tk', h2⟩ := oo_loop hr hb hcs hcb ho hS cs [] O 0 0 0 0 rfl hO
      have h2' : Ev (CA S) noO (.code 41 false (loopOf Try.prog 41 0) (s41 f (evRows l) (rowsP cs) (dvO o) (dvX O) (most : Nat) 0 [])) (.code (.exit 0) (f41 (dvX (told most O (cs.flatMap (tryC (metL 0 l []) cs F o))).1) tk')) :=
        .tokIn _ _ _ _ _ _ (tk4 0 0 0 0) (tok4 0 0 _ (.inl ⟨rfl, rfl, rfl⟩)) h2
      cases o with
      | nil =>
        by_cases hn : O = []
        · subst hn
          exact ⟨_, .inl (ca_nonn S f _ _ _ 0 _ _ tk' (decide_eq_false (by simp at hlt; omega)) hfit hw h2')⟩
        · rw [dvX_ne hn] at h2' ⊢
          exact ⟨_, .inl (ca_nons S f _ _ _ (O.length : Nat) _ (rowsO O) _ tk' (by simp [rowsO]) (decide_eq_false (by omega)) hfit hw h2')⟩
      | cons x q =>
        by_cases hn : O = []
        · subst hn
          exact ⟨_, .inl (ca_nosn S f _ _ _ 0 _ (rowsP (x :: q)) _ tk' (decide_eq_false (by simp at hlt; omega)) hfit hw h2')⟩
        · rw [dvX_ne hn] at h2' ⊢
          exact ⟨_, .inl (ca_noss S f _ _ _ (O.length : Nat) _ (rowsP (x :: q)) (rowsO O) _ tk' (by simp [rowsO]) (decide_eq_false (by omega)) hfit hw h2')⟩
end

end Go.Ev

namespace Go.Ev
open Go Go.RowKit Go.Proofs

def allSpec (n : Nat) : Spec
  | [.one (.sl 7 f r), .one (.sl 2 false rc), .one yo, .one yx, .one (.v (.int .i64 most))] => match allSome evtI r, allSome rowI rc, decO yo, decX yx with
    | some l, some cs, some o, some O =>
      if rightB l = true ∧ l.length < 2 ^ 40 ∧ cs.length ≤ 7 ∧ (∀ c ∈ cs, 0 ≤ placeI c false l) ∧ o.Nodup ∧ (∀ x ∈ o, x ∈ cs) ∧ cs.length ≤ o.length + n ∧ 0 ≤ most ∧ most ≤ 1000 ∧ O.length ≤ most.toNat then
        some [.one (dvX (told most.toNat O (everyL (metL 0 l []) cs n o)).1)]
      else none
    | _, _, _, _ => none
  | [ph, .one (.v (.slice none 0 0)), .one (.v (.slice none 0 0)), .one (.v (.slice none 0 0)), .one (.v (.int .i64 most))] => match evtsOf ph with
    | some [] => if 0 ≤ most then some [.one (dvX (([[]] : List (List (Int × Int))).take most.toNat))] else none
    | _ => none
  | _ => none
theorem all_step {S : Spec} (hP : PrimOK (CA S)) (n : Nat)
    (hS : ∀ (f : Bool) (l : List Evt) (cs o : List (Int × Int)) (O : List (List (Int × Int))) (most : Nat), rightB l = true → l.length < 2 ^ 40 → cs.length ≤ 7 → (∀ c ∈ cs, 0 ≤ placeI c false l) → o.Nodup → (∀ x ∈ o, x ∈ cs) → cs.length ≤ o.length + n → most ≤ 1000 → O.length ≤ most →
      ∃ h1, Ev (CA S) noO (.call 41 [.d (.sl 7 f (evRows l)), .d (.sl 2 false (rowsP cs)), .d (dvO o), .d (dvX O), vi (most : Nat)] {}) (.val (.d (dvX (told most O (everyL (metL 0 l []) cs n o)).1)) h1)) : Sat (CA S) 41 (allSpec n) := by
  refine sat_of_ev (O := noO) hP (fun _ _ h => h.elim) hm0 fun ps rs hs => ?_
  unfold allSpec at hs
  split at hs
  · rename_i f r rc yo yx most
    split at hs
    · rename_i l cs o O hl hc ho hO
      split at hs
      · rename_i h
        obtain ⟨h1, h2, h3, h4, h5, h6, h7, h8, h9, h10⟩ := h
        simp only [Option.some.injEq] at hs
        subst hs
        obtain rfl : r = evRows l := rows_eq (fun _ _ => evtI_eq) hl
        have e2 : rc = rowsP cs := rows_eq (g := fun c : Int × Int => ([.v (.int .i64 c.1), .v (.int .i64 c.2)] : List DV)) (fun _ _ => rowI_eq) hc
        subst e2
        obtain rfl := decO_eq ho
        obtain rfl := decX_eq hO
        obtain ⟨k, rfl⟩ : ∃ k : Nat, most = k := ⟨most.toNat, by omega⟩
        obtain ⟨q, hq⟩ := hS f l cs o O k h1 h2 h3 h4 h5 h6 h7 (by omega) h10
        exact ⟨_, _, _, hq, dvX_res _ _⟩
      · cases hs
    · cases hs
  · rename_i ph most
    split at hs
    · rename_i hl
      split at hs
      · rename_i h0
        simp only [Option.some.injEq] at hs
        subst hs
        by_cases hz : most = 0
        · subst hz
          rcases evtsOf_cases hl with ⟨rfl, _⟩ | ⟨f, rfl⟩
          · exact ⟨_, _, _, cz_nt S 0 rfl, rfl⟩
          · exact ⟨_, _, _, cz_et S f 0 rfl, rfl⟩
        · have e : ([[]] : List (List (Int × Int))).take most.toNat = [[]] := List.take_of_length_le (by simp; omega)
          rw [e]
          rcases evtsOf_cases hl with ⟨rfl, _⟩ | ⟨f, rfl⟩
          · exact ⟨_, _, _, cz_nf S most (decide_eq_false (by omega)), rfl⟩
          · exact ⟨_, _, _, cz_ef S f most (decide_eq_false (by omega)), rfl⟩
      · cases hs
    · cases hs
  · cases hs
theorem or_self' {p : Prop} (h : p ∨ p) : p := by rcases h with h | h <;> exact h
theorem hPA {S : Spec} (hs : Sat C13 41 S) : PrimOK (CA S) := primOK_cons hP13 rfl (by decide) hs rfl rfl rfl (by kernel_rfl)
theorem allSpec_at {n : Nat} {f : Bool} {l : List Evt} {cs o : List (Int × Int)} {O : List (List (Int × Int))} {most : Nat} (h1 : rightB l = true) (h2 : l.length < 2 ^ 40) (h3 : cs.length ≤ 7) (h4 : ∀ c ∈ cs, 0 ≤ placeI c false l) (h5 : o.Nodup) (h6 : ∀ x ∈ o, x ∈ cs) (h7 : cs.length ≤ o.length + n) (h8 : most ≤ 1000) (h9 : O.length ≤ most) :
    allSpec n [.one (.sl 7 f (evRows l)), .one (.sl 2 false (rowsP cs)), .one (dvO o), .one (dvX O), .one (di (most : Nat))] = some [.one (dvX (told most O (everyL (metL 0 l []) cs n o)).1)] := by
  have e1 : allSome evtI (evRows l) = some l := allSome_map evtI_row l
  have e2 : allSome rowI (rowsP cs) = some cs := by unfold rowsP; exact allSome_map rowI_P cs
  have e3 : ((most : Nat) : Int).toNat = most := by simp
  simp only [allSpec, di, e1, e2, decO_dv, decX_dv, e3]
  rw [if_pos ⟨h1, h2, h3, h4, h5, h6, h7, by omega, by omega, h9⟩]
theorem olen {cs o : List (Int × Int)} (h : cs.length ≤ 7) (hn : o.Nodup) (hs : ∀ x ∈ o, x ∈ cs) : o.length ≤ 7 := by
  have := len_of_sub o cs hn hs
  omega
theorem all_sat : ∀ n : Nat, Sat C13 41 (allSpec n)
  | 0 => by
    have hP : PrimOK (CA fun _ => none) := hPA fun ps rs hs => by cases hs
    refine (all_step hP 0 fun f l cs o O most h1 h2 h3 h4 h5 h6 h7 h8 h9 => ?_).ctx rfl rfl
    have hall : ∀ c ∈ cs, o.contains c = true := fun c hc => by
      cases e : o.contains c with
      | true => rfl
      | false =>
        have hni : c ∉ o := fun h => by rw [List.contains_iff_mem.2 h] at e; cases e
        have := len_of_sub (c :: o) cs (List.nodup_cons.2 ⟨hni, h5⟩) (fun x hx => by
          rcases List.mem_cons.1 hx with rfl | hx
          · exact hc
          · exact h6 x hx)
        simp at this
        omega
    have hfl : ∀ rest : List (Int × Int), (∀ c ∈ rest, c ∈ cs) → rest.flatMap (tryC (metL 0 l []) cs (fun _ => []) o) = [] := by
      intro rest
      induction rest with
      | nil => intro _; rfl
      | cons c r ih =>
        intro h
        rw [List.flatMap_cons, ih fun x hx => h x (by simp [hx])]
        have := hall c (h c (by simp))
        simp only [tryC, this, if_true, List.append_nil]
    obtain ⟨q, hq⟩ := all_call (S := fun _ => none) (f := f) (l := l) (cs := cs) (o := o) (most := most) (F := fun _ => []) h1 h2 h3 h4 (by have := olen h3 h5 h6; omega) h8 (fun c hc hoc => by rw [hall c hc] at hoc; cases hoc) O h9
    rw [hfl cs fun c hc => hc, List.append_nil] at hq
    exact ⟨q, or_self' hq⟩
  | n + 1 => by
    have hP : PrimOK (CA (allSpec n)) := hPA (all_sat n)
    refine (all_step hP (n + 1) fun f l cs o O most h1 h2 h3 h4 h5 h6 h7 h8 h9 => ?_).ctx rfl rfl
    have ho7 := olen h3 h5 h6
    obtain ⟨q, hq⟩ := all_call (S := allSpec n) (f := f) (l := l) (cs := cs) (o := o) (most := most) (F := everyL (metL 0 l []) cs n) h1 h2 h3 h4 (by omega) h8 (fun c hc hoc O' hO' => by
      have hni : c ∉ o := fun h => by rw [List.contains_iff_mem.2 h] at hoc; cases hoc
      exact allSpec_at h1 h2 h3 h4 (by rw [List.nodup_append]; exact ⟨h5, by simp, fun a ha b hb e => by simp at hb; subst hb; exact hni (by rw [← e]; exact ha)⟩)
        (fun x hx => by rcases List.mem_append.1 hx with hx | hx; exact h6 x hx; simp at hx; subst hx; exact hc) (by simp; omega) h8 hO') O h9
    exact ⟨q, or_self' hq⟩

end Go.Ev
