/- What the proof of this claim needs: part MI. No conditions. -/
import Derived.Test.YtgpdnahmgacffaaMH
set_option linter.unusedVariables false
set_option linter.unusedSimpArgs false

namespace Go.Ev
open Go Go.RowKit Go.Proofs

noncomputable def C9 : Ctx := { P := Try.prog, prim := primL L8, wr := fun f d => f == 24 && d == 41, nt := fun f d => f == 48 && d == 39 }
theorem hP9 : PrimOK C9 := fun g s h => by
  obtain ⟨h1, h2⟩ := hP8 g s h
  exact ⟨h1.ctx rfl rfl, h2⟩

/-- calls, cell by cell -/
def pcells (l : List (Int × Int)) : List AV := l.flatMap fun c => [vi c.1, vi c.2]
def h24 (many : Int) (oa : AV) (more : List (Nat × Nat × List AO)) (tk : List (Nat × Nat)) : H :=
  { objs := (site 24 3, 1, [.cells [vi many] false]) :: (site 24 4, 1, [.cells [oa] false]) :: more, toks := tk }
def hL (many : Int) (oa : AV) (cs : List AV) : H := h24 many oa [(site 24 41, 1, [.cells cs false])] []
def lS (n : Nat) : AV := .hs (site 24 41) 0 0 n 2
def cmpF : AV := .d (.v (.func (.func 37) #[] #[]))

end Go.Ev

namespace Go.Ev
open Go Go.RowKit Go.Proofs

theorem si_yyL (l : List (Int × Int)) (oa : AV) (many : Int) (i : Int) (j : Int) (n : Nat) (p : Nat) (q : Nat) (a : Int × Int) (b : Int × Int) (k : Int) (i29 : Int) (i41 : Int) (i44 : Int) (l1 : List (Int × Int)) (l12 : List (Int × Int)) (i36 : Int) (x : X) (s : St) (h1 : decide (j > 0) = true) (h2 : j = ↑p ∧ p < n) (h3 : asCells C9 23 (pcells l) (0 + p * 2) = some (AV.agg [vi a.1, vi a.2])) (h4 : wr64 (j - 1) = i29) (h5 : i29 = ↑q ∧ q < n) (h6 : asCells C9 23 (pcells l) (0 + q * 2) = some (AV.agg [vi b.1, vi b.2])) (h7 : cmpSpec [PV.agg [di a.1, di a.2], PV.agg [di b.1, di b.2]] = some [PV.one (di k)]) (h8 : decide (k < 0) = true) (h9 : wr64 (j - 1) = i41) (h10 : wr64 (j - 1) = i44) (h11 : i44 = ↑q ∧ q < n) (h12 : asCells C9 23 (pcells l) (0 + q * 2) = some (AV.agg [vi b.1, vi b.2])) (h13 : j = ↑p ∧ p < n) (h14 : asCells C9 23 (pcells l) (0 + p * 2) = some (AV.agg [vi a.1, vi a.2])) (h15 : j = ↑p ∧ p < n) (h16 : stoEq C9 23 (pcells l) (0 + p * 2) (AV.agg [vi b.1, vi b.2]) (pcells l1)) (h17 : i41 = ↑q ∧ q < n) (h18 : stoEq C9 23 (pcells l1) (0 + q * 2) (AV.agg [vi a.1, vi a.2]) (pcells l12)) (h19 : wr64 (j - 1) = i36) (h20 : Ev C9 noO (Task.code 55 false (loopOf Try.prog 55 1) { σ := slots 53 [(0, AV.hs 196649 0 0 n 2), (1, vi 0), (2, vi (Int.ofNat n)), (3, AV.d (DV.v (Value.func (Fn.func 37) { toList := [] } { toList := [] }))), (8, vi i), (9, vi i36)], h := { objs := [(196611, 1, [AO.cells [vi many] false]), (196612, 1, [AO.cells [oa] false]), (196649, 1, [AO.cells (pcells l12) false])] } }) (Res.code x s)) :
    Ev C9 noO (Task.code 55 false (loopOf Try.prog 55 1) { σ := slots 53 [(0, lS n), (1, vi 0), (2, vi ↑n), (3, cmpF), (8, vi i), (9, vi j)], h := hL many oa (pcells l) }) (.code (x) s) :=
  sym_ev 80 _ [(site 55 20, Dec.b true), (site 55 25, Dec.idx p), (site 55 26, Dec.ld (aggP a)), (site 55 29, Dec.int i29), (site 55 30, Dec.idx q), (site 55 31, Dec.ld (aggP b)), (site 55 32, Dec.prim [pint k]), (site 55 33, Dec.b true), (site 55 41, Dec.int i41), (site 55 44, Dec.int i44), (site 55 45, Dec.idx q), (site 55 46, Dec.ld (aggP b)), (site 55 49, Dec.idx p), (site 55 50, Dec.ld (aggP a)), (site 55 51, Dec.idx p), (site 55 8000, Dec.sto (pcells l1)), (site 55 52, Dec.idx q), (site 55 8000, Dec.sto (pcells l12)), (site 55 36, Dec.int i36), (site 55 8001, Dec.loop [0, 1, 2, 3, 8, 9] x s)] _ [] _ (by kernel_rfl) (AllP_cons h1 (AllP_cons h2 (AllP_cons h3 (AllP_cons h4 (AllP_cons h5 (AllP_cons h6 (AllP_cons h7 (AllP_cons h8 (AllP_cons h9 (AllP_cons h10 (AllP_cons h11 (AllP_cons h12 (AllP_cons h13 (AllP_cons h14 (AllP_cons h15 (AllP_cons h16 (AllP_cons h17 (AllP_cons h18 (AllP_cons h19 (AllP_cons h20 AllP_nil))))))))))))))))))))
theorem si_yn (l : List (Int × Int)) (oa : AV) (many : Int) (i : Int) (j : Int) (n : Nat) (p : Nat) (q : Nat) (a : Int × Int) (b : Int × Int) (k : Int) (i29 : Int) (h1 : decide (j > 0) = true) (h2 : j = ↑p ∧ p < n) (h3 : asCells C9 23 (pcells l) (0 + p * 2) = some (AV.agg [vi a.1, vi a.2])) (h4 : wr64 (j - 1) = i29) (h5 : i29 = ↑q ∧ q < n) (h6 : asCells C9 23 (pcells l) (0 + q * 2) = some (AV.agg [vi b.1, vi b.2])) (h7 : cmpSpec [PV.agg [di a.1, di a.2], PV.agg [di b.1, di b.2]] = some [PV.one (di k)]) (h8 : decide (k < 0) = false) :
    Ev C9 noO (Task.code 55 false (loopOf Try.prog 55 1) { σ := slots 53 [(0, lS n), (1, vi 0), (2, vi ↑n), (3, cmpF), (8, vi i), (9, vi j)], h := hL many oa (pcells l) }) (.code (X.exit 2) { σ := slots 53 [(0, AV.hs 196649 0 0 n 2), (1, vi 0), (2, vi (Int.ofNat n)), (3, AV.d (DV.v (Value.func (Fn.func 37) { toList := [] } { toList := [] }))), (8, vi i)], h := { objs := [(196611, 1, [AO.cells [vi many] false]), (196612, 1, [AO.cells [oa] false]), (196649, 1, [AO.cells (pcells l) false])] } }) :=
  symM_ev (n := 80) (sc := [(site 55 20, Dec.b true), (site 55 25, Dec.idx p), (site 55 26, Dec.ld (aggP a)), (site 55 29, Dec.int i29), (site 55 30, Dec.idx q), (site 55 31, Dec.ld (aggP b)), (site 55 32, Dec.prim [pint k]), (site 55 33, Dec.b false)]) (keep := [0, 1, 2, 3, 8]) (sc' := []) (by kernel_rfl) (AllP_cons h1 (AllP_cons h2 (AllP_cons h3 (AllP_cons h4 (AllP_cons h5 (AllP_cons h6 (AllP_cons h7 (AllP_cons h8 AllP_nil))))))))
theorem si_n (l : List (Int × Int)) (oa : AV) (many : Int) (i : Int) (j : Int) (n : Nat) (p : Nat) (q : Nat) (a : Int × Int) (b : Int × Int) (k : Int) (h1 : decide (j > 0) = false) :
    Ev C9 noO (Task.code 55 false (loopOf Try.prog 55 1) { σ := slots 53 [(0, lS n), (1, vi 0), (2, vi ↑n), (3, cmpF), (8, vi i), (9, vi j)], h := hL many oa (pcells l) }) (.code (X.exit 2) { σ := slots 53 [(0, AV.hs 196649 0 0 n 2), (1, vi 0), (2, vi (Int.ofNat n)), (3, AV.d (DV.v (Value.func (Fn.func 37) { toList := [] } { toList := [] }))), (8, vi i)], h := { objs := [(196611, 1, [AO.cells [vi many] false]), (196612, 1, [AO.cells [oa] false]), (196649, 1, [AO.cells (pcells l) false])] } }) :=
  symM_ev (n := 80) (sc := [(site 55 20, Dec.b false)]) (keep := [0, 1, 2, 3, 8]) (sc' := []) (by kernel_rfl) (AllP_cons h1 AllP_nil)
theorem so_yL (l : List (Int × Int)) (l1 : List (Int × Int)) (oa : AV) (many : Int) (i : Int) (n : Nat) (i16 : Int) (x : X) (s : St) (h1 : decide (i < ↑n) = true) (h2 : Ev C9 noO (Task.code 55 false (loopOf Try.prog 55 1) { σ := slots 53 [(0, AV.hs 196649 0 0 n 2), (1, vi 0), (2, vi (Int.ofNat n)), (3, AV.d (DV.v (Value.func (Fn.func 37) { toList := [] } { toList := [] }))), (8, vi i), (9, vi i)], h := { objs := [(196611, 1, [AO.cells [vi many] false]), (196612, 1, [AO.cells [oa] false]), (196649, 1, [AO.cells (pcells l) false])] } }) (Res.code (X.exit 2) { σ := slots 53 [(0, lS n), (1, vi 0), (2, vi ↑n), (3, cmpF), (8, vi i)], h := hL many oa (pcells l1) })) (h3 : wr64 (i + 1) = i16) (h4 : Ev C9 noO (Task.code 55 false (loopOf Try.prog 55 0) { σ := slots 53 [(0, AV.hs 196649 0 0 n 2), (1, vi 0), (2, vi (Int.ofNat n)), (3, AV.d (DV.v (Value.func (Fn.func 37) { toList := [] } { toList := [] }))), (8, vi i16)], h := { objs := [(196611, 1, [AO.cells [vi many] false]), (196612, 1, [AO.cells [oa] false]), (196649, 1, [AO.cells (pcells l1) false])] } }) (Res.code x s)) :
    Ev C9 noO (Task.code 55 false (loopOf Try.prog 55 0) { σ := slots 53 [(0, lS n), (1, vi 0), (2, vi ↑n), (3, cmpF), (8, vi i)], h := hL many oa (pcells l) }) (.code (x) s) :=
  sym_ev 80 _ [(site 55 14, Dec.b true), (site 55 8001, Dec.loop [0, 1, 2, 3, 8, 9] (X.exit 2) { σ := slots 53 [(0, lS n), (1, vi 0), (2, vi ↑n), (3, cmpF), (8, vi i)], h := hL many oa (pcells l1) }), (site 55 16, Dec.int i16), (site 55 8001, Dec.loop [0, 1, 2, 3, 8] x s)] _ [] _ (by kernel_rfl) (AllP_cons h1 (AllP_cons h2 (AllP_cons h3 (AllP_cons h4 AllP_nil))))
theorem so_n (l : List (Int × Int)) (l1 : List (Int × Int)) (oa : AV) (many : Int) (i : Int) (n : Nat) (h1 : decide (i < ↑n) = false) :
    Ev C9 noO (Task.code 55 false (loopOf Try.prog 55 0) { σ := slots 53 [(0, lS n), (1, vi 0), (2, vi ↑n), (3, cmpF), (8, vi i)], h := hL many oa (pcells l) }) (.code (X.exit 0) { σ := slots 53 [], h := { objs := [(196611, 1, [AO.cells [vi many] false]), (196612, 1, [AO.cells [oa] false]), (196649, 1, [AO.cells (pcells l) false])] } }) :=
  symM_ev (n := 80) (sc := [(site 55 14, Dec.b false)]) (keep := []) (sc' := []) (by kernel_rfl) (AllP_cons h1 AllP_nil)

end Go.Ev

namespace Go.Ev
open Go Go.RowKit Go.Proofs

theorem pc_ld {C : Ctx} (hC : C.P = Try.prog) {l : List (Int × Int)} {k : Nat} {c : Int × Int} (h : l[k]? = some c) : asCells C 23 (pcells l) (0 + k * 2) = some (.agg [vi c.1, vi c.2]) := by
  have e1 : isAggT C 23 = some true := by unfold isAggT; rw [hC]; kernel_rfl
  have e2 : sizeT C 23 = some 2 := by unfold sizeT; rw [hC]; kernel_rfl
  have := fl_take (f := fun c : Int × Int => [vi c.1, vi c.2]) (w := 2) (fun _ => rfl) h
  simp only [asCells, e1, e2]
  unfold pcells
  rw [this]
theorem pc_st {C : Ctx} (hC : C.P = Try.prog) {l : List (Int × Int)} {k : Nat} {d : Int × Int} (c : Int × Int) (h : l[k]? = some d) : stoEq C 23 (pcells l) (0 + k * 2) (.agg [vi c.1, vi c.2]) (pcells (l.set k c)) := by
  have e2 : sizeT C 23 = some 2 := by unfold sizeT; rw [hC]; kernel_rfl
  obtain ⟨h1, h2⟩ := fl_put (f := fun c : Int × Int => [vi c.1, vi c.2]) (w := 2) (a' := c) (j := 0) (xs := [vi c.1, vi c.2]) (fun _ => rfl) h rfl (by simp)
  exact ⟨2, e2, rfl, by simpa [pcells] using h2, rfl, by simpa [pcells, cellsA] using h1.symm⟩

/-- a call goes down to its place -/
def insL : List (Int × Int) → Int × Int → List (Int × Int) → List (Int × Int)
  | [], c, d => c :: d
  | x :: rp, c, d => if cmp2 c x < 0 then insL rp c (x :: d) else (x :: rp).reverse ++ c :: d
theorem insL_app : ∀ (rp : List (Int × Int)) (c : Int × Int) (d e : List (Int × Int)), insL rp c (d ++ e) = insL rp c d ++ e
  | [], c, d, e => rfl
  | x :: rp, c, d, e => by
    unfold insL
    split
    · rw [show x :: (d ++ e) = (x :: d) ++ e from rfl, insL_app rp c (x :: d) e]
    · simp
theorem insL_len : ∀ (rp : List (Int × Int)) (c : Int × Int) (d : List (Int × Int)), (insL rp c d).length = rp.length + 1 + d.length
  | [], c, d => by simp [insL]; omega
  | x :: rp, c, d => by
    unfold insL
    split
    · rw [insL_len rp c (x :: d)]; simp; omega
    · simp; omega
def sortL : List (Int × Int) → List (Int × Int) → List (Int × Int)
  | p, [] => p
  | p, c :: r => sortL (insL p.reverse c []) r
def sS (n : Nat) (more : List (Nat × AV)) (many : Int) (oa : AV) (l : List (Int × Int)) : St := { σ := slots 53 ((0, lS n) :: (1, vi 0) :: (2, vi n) :: (3, cmpF) :: more), h := hL many oa (pcells l) }
theorem si_loop (many : Int) (oa : AV) (n : Nat) (hb : n < 2 ^ 40) (i : Int) : ∀ (rp : List (Int × Int)) (c : Int × Int) (d : List (Int × Int)), rp.length + 1 + d.length = n →
    Ev C9 noO (.code 55 false (loopOf Try.prog 55 1) (sS n [(8, vi i), (9, vi (rp.length : Nat))] many oa (rp.reverse ++ c :: d))) (.code (.exit 2) (sS n [(8, vi i)] many oa (insL rp c d)))
  | [], c, d, hl => si_n _ oa many i _ n 0 0 c c 0 (decide_eq_false (by simp))
  | x :: rp, c, d, hl => by
    have h1 : ((x :: rp).reverse ++ c :: d)[(x :: rp).length]? = some c := by simp
    have h2 : ((x :: rp).reverse ++ c :: d)[rp.length]? = some x := by
      rw [List.reverse_cons, List.append_assoc, List.getElem?_append_right (by simp)]; simp
    have ld1 := pc_ld (C := C9) rfl h1
    have ld2 := pc_ld (C := C9) rfl h2
    simp only [List.length_cons] at hl
    have hw : wr64 (((x :: rp).length : Nat) - 1) = ((rp.length : Nat) : Int) := by
      rw [List.length_cons, show (((rp.length + 1 : Nat) : Int) - 1) = ((rp.length : Nat) : Int) by omega]
      exact wrap_ok (by omega) (by omega)
    have hc : cmpSpec [PV.agg [di c.1, di c.2], PV.agg [di x.1, di x.2]] = some [PV.one (di (cmp2 c x))] := rfl
    have hj : decide ((((x :: rp).length : Nat) : Int) > 0) = true := decide_eq_true (by simp)
    unfold insL
    by_cases hlt : cmp2 c x < 0
    · rw [if_pos hlt]
      have st1 := pc_st (C := C9) rfl x h1
      have e1 : ((x :: rp).reverse ++ c :: d).set (x :: rp).length x = rp.reverse ++ x :: x :: d := by
        rw [List.set_append_right _ _ (by simp)]; simp
      rw [e1] at st1
      have h3 : (rp.reverse ++ x :: x :: d)[rp.length]? = some x := by simp
      have st2 := pc_st (C := C9) rfl c h3
      have e2 : (rp.reverse ++ x :: x :: d).set rp.length c = rp.reverse ++ c :: x :: d := by
        rw [List.set_append_right _ _ (by simp)]; simp
      rw [e2] at st2
      have ih := si_loop many oa n hb i rp c (x :: d) (by simp; omega)
      exact si_yyL _ oa many i _ n (x :: rp).length rp.length c x (cmp2 c x) _ _ _ _ _ _ _ _ hj ⟨rfl, by simp; omega⟩ ld1 hw ⟨rfl, by omega⟩ ld2 hc (decide_eq_true hlt) hw hw ⟨rfl, by omega⟩ ld2 ⟨rfl, by simp; omega⟩ ld1 ⟨rfl, by simp; omega⟩ st1 ⟨rfl, by omega⟩ st2 hw ih
    · rw [if_neg hlt]
      exact si_yn _ oa many i _ n (x :: rp).length rp.length c x (cmp2 c x) _ hj ⟨rfl, by simp; omega⟩ ld1 hw ⟨rfl, by omega⟩ ld2 hc (decide_eq_false hlt)
theorem so_loop (many : Int) (oa : AV) (n : Nat) (hb : n < 2 ^ 40) : ∀ (rest p : List (Int × Int)), p.length + rest.length = n →
    Ev C9 noO (.code 55 false (loopOf Try.prog 55 0) (sS n [(8, vi (p.length : Nat))] many oa (p ++ rest))) (.code (.exit 0) { σ := slots 53 [], h := hL many oa (pcells (sortL p rest)) })
  | [], p, hl => by
    rw [List.append_nil]
    exact so_n p p oa many _ n (dge (by simpa using Nat.le_of_eq hl.symm))
  | c :: r, p, hl => by
    simp only [List.length_cons] at hl
    have h1 := si_loop many oa n hb (p.length : Nat) p.reverse c r (by simp; omega)
    simp only [List.reverse_reverse, List.length_reverse] at h1
    have e1 : insL p.reverse c r = insL p.reverse c [] ++ r := by rw [← insL_app]; rfl
    rw [e1] at h1
    have ih := so_loop many oa n hb r (insL p.reverse c []) (by rw [insL_len]; simp; omega)
    rw [insL_len] at ih
    simp only [List.length_reverse, List.length_nil, Nat.add_zero] at ih
    exact so_yL _ _ oa many _ n _ _ _ (dlt (by omega)) h1 (wrap_succ (by omega)) ih

end Go.Ev

namespace Go.Ev
open Go Go.RowKit Go.Proofs

theorem srt1 (many : Int) (oa : AV) (l l1 : List (Int × Int)) (h : Ev C9 noO (.code 55 false (loopOf Try.prog 55 0) { σ := slots 53 [(0, lS 1), (1, vi 0), (2, vi 1), (3, cmpF), (8, vi 1)], h := hL many oa (pcells l) }) (.code (.exit 0) { σ := slots 53 [], h := hL many oa (pcells l1) })) :
    Ev C9 noO (.call 36 [lS 1, cmpF] (hL many oa (pcells l))) (.val (.d (.v (.tuple #[]))) (hL many oa (pcells l1))) :=
  sym_ev 200 _ [(site 55 8001, Dec.loop [0, 1, 2, 3, 8] (.exit 0) { σ := slots 53 [], h := hL many oa (pcells l1) })] _ [] _ (by kernel_rfl) (AllP_cons h AllP_nil)
theorem srt2 (many : Int) (oa : AV) (l l1 : List (Int × Int)) (h : Ev C9 noO (.code 55 false (loopOf Try.prog 55 0) { σ := slots 53 [(0, lS 2), (1, vi 0), (2, vi 2), (3, cmpF), (8, vi 1)], h := hL many oa (pcells l) }) (.code (.exit 0) { σ := slots 53 [], h := hL many oa (pcells l1) })) :
    Ev C9 noO (.call 36 [lS 2, cmpF] (hL many oa (pcells l))) (.val (.d (.v (.tuple #[]))) (hL many oa (pcells l1))) :=
  sym_ev 200 _ [(site 55 8001, Dec.loop [0, 1, 2, 3, 8] (.exit 0) { σ := slots 53 [], h := hL many oa (pcells l1) })] _ [] _ (by kernel_rfl) (AllP_cons h AllP_nil)
theorem srt3 (many : Int) (oa : AV) (l l1 : List (Int × Int)) (h : Ev C9 noO (.code 55 false (loopOf Try.prog 55 0) { σ := slots 53 [(0, lS 3), (1, vi 0), (2, vi 3), (3, cmpF), (8, vi 1)], h := hL many oa (pcells l) }) (.code (.exit 0) { σ := slots 53 [], h := hL many oa (pcells l1) })) :
    Ev C9 noO (.call 36 [lS 3, cmpF] (hL many oa (pcells l))) (.val (.d (.v (.tuple #[]))) (hL many oa (pcells l1))) :=
  sym_ev 200 _ [(site 55 8001, Dec.loop [0, 1, 2, 3, 8] (.exit 0) { σ := slots 53 [], h := hL many oa (pcells l1) })] _ [] _ (by kernel_rfl) (AllP_cons h AllP_nil)
theorem srt4 (many : Int) (oa : AV) (l l1 : List (Int × Int)) (h : Ev C9 noO (.code 55 false (loopOf Try.prog 55 0) { σ := slots 53 [(0, lS 4), (1, vi 0), (2, vi 4), (3, cmpF), (8, vi 1)], h := hL many oa (pcells l) }) (.code (.exit 0) { σ := slots 53 [], h := hL many oa (pcells l1) })) :
    Ev C9 noO (.call 36 [lS 4, cmpF] (hL many oa (pcells l))) (.val (.d (.v (.tuple #[]))) (hL many oa (pcells l1))) :=
  sym_ev 200 _ [(site 55 8001, Dec.loop [0, 1, 2, 3, 8] (.exit 0) { σ := slots 53 [], h := hL many oa (pcells l1) })] _ [] _ (by kernel_rfl) (AllP_cons h AllP_nil)
theorem srt5 (many : Int) (oa : AV) (l l1 : List (Int × Int)) (h : Ev C9 noO (.code 55 false (loopOf Try.prog 55 0) { σ := slots 53 [(0, lS 5), (1, vi 0), (2, vi 5), (3, cmpF), (8, vi 1)], h := hL many oa (pcells l) }) (.code (.exit 0) { σ := slots 53 [], h := hL many oa (pcells l1) })) :
    Ev C9 noO (.call 36 [lS 5, cmpF] (hL many oa (pcells l))) (.val (.d (.v (.tuple #[]))) (hL many oa (pcells l1))) :=
  sym_ev 200 _ [(site 55 8001, Dec.loop [0, 1, 2, 3, 8] (.exit 0) { σ := slots 53 [], h := hL many oa (pcells l1) })] _ [] _ (by kernel_rfl) (AllP_cons h AllP_nil)
theorem srt6 (many : Int) (oa : AV) (l l1 : List (Int × Int)) (h : Ev C9 noO (.code 55 false (loopOf Try.prog 55 0) { σ := slots 53 [(0, lS 6), (1, vi 0), (2, vi 6), (3, cmpF), (8, vi 1)], h := hL many oa (pcells l) }) (.code (.exit 0) { σ := slots 53 [], h := hL many oa (pcells l1) })) :
    Ev C9 noO (.call 36 [lS 6, cmpF] (hL many oa (pcells l))) (.val (.d (.v (.tuple #[]))) (hL many oa (pcells l1))) :=
  sym_ev 200 _ [(site 55 8001, Dec.loop [0, 1, 2, 3, 8] (.exit 0) { σ := slots 53 [], h := hL many oa (pcells l1) })] _ [] _ (by kernel_rfl) (AllP_cons h AllP_nil)
theorem srt7 (many : Int) (oa : AV) (l l1 : List (Int × Int)) (h : Ev C9 noO (.code 55 false (loopOf Try.prog 55 0) { σ := slots 53 [(0, lS 7), (1, vi 0), (2, vi 7), (3, cmpF), (8, vi 1)], h := hL many oa (pcells l) }) (.code (.exit 0) { σ := slots 53 [], h := hL many oa (pcells l1) })) :
    Ev C9 noO (.call 36 [lS 7, cmpF] (hL many oa (pcells l))) (.val (.d (.v (.tuple #[]))) (hL many oa (pcells l1))) :=
  sym_ev 200 _ [(site 55 8001, Dec.loop [0, 1, 2, 3, 8] (.exit 0) { σ := slots 53 [], h := hL many oa (pcells l1) })] _ [] _ (by kernel_rfl) (AllP_cons h AllP_nil)
theorem srt_call (many : Int) (oa : AV) (l : List (Int × Int)) (h0 : l ≠ []) (h7 : l.length ≤ 7) : Ev C9 noO (.call 36 [lS l.length, cmpF] (hL many oa (pcells l))) (.val (.d (.v (.tuple #[]))) (hL many oa (pcells (sortL [] l)))) := by
  cases l with
  | nil => exact absurd rfl h0
  | cons c r =>
    have h := so_loop many oa (c :: r).length (by omega) r [c] (by simp; omega)
    have e : sortL [] (c :: r) = sortL [c] r := rfl
    rw [e]
    simp only [List.singleton_append] at h
    generalize hn : (c :: r).length = n at h h7 ⊢
    have hn0 : 0 < n := by rw [← hn]; simp
    match n, hn0, h7, h with
    | 1, _, _, h => exact srt1 _ _ _ _ h
    | 2, _, _, h => exact srt2 _ _ _ _ h
    | 3, _, _, h => exact srt3 _ _ _ _ h
    | 4, _, _, h => exact srt4 _ _ _ _ h
    | 5, _, _, h => exact srt5 _ _ _ _ h
    | 6, _, _, h => exact srt6 _ _ _ _ h
    | 7, _, _, h => exact srt7 _ _ _ _ h
    | n + 8, _, h7, _ => omega

end Go.Ev

namespace Go.Ev
open Go

theorem len_of_sub {α : Type} [BEq α] [LawfulBEq α] : ∀ (a b : List α), a.Nodup → (∀ x ∈ a, x ∈ b) → a.length ≤ b.length
  | [], b, _, _ => by simp
  | x :: a, b, hn, hs => by
    rw [List.nodup_cons] at hn
    have hx := hs x (by simp)
    have h2 := len_of_sub a (b.erase x) hn.2 fun y hy => by
      have hne : y ≠ x := fun e => hn.1 (by rw [← e]; exact hy)
      exact (List.mem_erase_of_ne hne).2 (hs y (by simp [hy]))
    rw [List.length_erase_of_mem hx] at h2
    have : 0 < b.length := List.length_pos_of_mem hx
    simp; omega

theorem rf1_of {l : List Evt} : ∀ (order pre : List (Int × Int)), (∀ c ∈ order, 0 ≤ placeI c false l) → (pre ++ order).Nodup → rf1 l pre order = true
  | [], pre, _, _ => rfl
  | c :: r, pre, h1, hn => by
    have h0 := h1 c (by simp)
    unfold rf1
    rw [if_neg (by omega)]
    have hc : pre.contains c = false := by
      cases e : pre.contains c with
      | false => rfl
      | true =>
        have := List.contains_iff_mem.1 e
        rw [List.nodup_append] at hn
        exact absurd rfl (hn.2.2 c this c (by simp))
    rw [hc]
    simp only [Bool.false_eq_true, if_false]
    exact rf1_of r (pre ++ [c]) (fun d hd => h1 d (by simp [hd])) (by simpa using hn)
theorem rf3_of {l : List Evt} : ∀ (order pre : List (Int × Int)), (pre ++ order).Pairwise (fun d c => refBeforeB l c d = false) → rf3 l pre order = true
  | [], pre, _ => rfl
  | c :: r, pre, h => by
    unfold rf3
    have h3 : rf3i l c pre = true := by
      cases e : rf3i l c pre with
      | true => rfl
      | false =>
        obtain ⟨d, hd, hb⟩ := (rf3i_iff l c pre).1 e
        rw [List.pairwise_append] at h
        have := h.2.2 d hd c (by simp)
        rw [hb] at this; cases this
    rw [if_pos h3]
    exact rf3_of r (pre ++ [c]) (by simpa using h)

theorem fits0 {l : List Evt} {order : List (Int × Int)} (hr : rightB l = true) (h1 : ∀ c ∈ order, 0 ≤ placeI c false l) (hn : order.Nodup)
    (h2 : ∀ s ∈ spansI l, 0 ≤ s.2.2.2 → (s.1, s.2.1) ∈ order) (h3 : order.Pairwise (fun d c => beforeB l c d = false)) : fitsB l order = 0 := by
  rw [fits_eq]
  unfold refFitsB
  rw [right_eq] at hr
  rw [hr, rf1_of order [] h1 (by simpa using hn), rf3_of order [] (by simpa [before_eq] using h3)]
  have e2 : rf2 order (refSpansI l) = true := by
    cases e : rf2 order (refSpansI l) with
    | true => rfl
    | false =>
      obtain ⟨s, hs, h4, h5⟩ := (rf2_iff order _).1 e
      rw [← spans_eq] at hs
      have := h2 s hs h4
      rw [← List.contains_iff_mem, h5] at this
      cases this
  rw [e2]
  rfl

theorem spansL_pw (all : List Evt) : ∀ (l : List Evt) (i : Nat), (refSpansL all i l).Pairwise (fun s t => s.2.2.1 < t.2.2.1) ∧ ∀ s ∈ refSpansL all i l, (i : Int) ≤ s.2.2.1
  | [], i => by simp [refSpansL]
  | e :: l, i => by
    obtain ⟨h1, h2⟩ := spansL_pw all l (i + 1)
    unfold refSpansL
    split
    · exact ⟨h1, fun s hs => by have := h2 s hs; omega⟩
    · rw [List.pairwise_cons]
      refine ⟨⟨fun s hs => ?_, h1⟩, fun s hs => ?_⟩
      · have := h2 s hs; simp only; omega
      · rcases List.mem_cons.1 hs with rfl | hs
        · simp
        · have := h2 s hs; omega

def callS (s : S4) : Int × Int := (s.1, s.2.1)
def begI (l : List Evt) : List (Int × Int) := (spansI l).map callS
def endI (l : List Evt) : List (Int × Int) := (l.filter fun e => e.re).map fun e => (e.th, e.ca)
def pendI (l : List Evt) : List (Int × Int) := ((spansI l).filter fun s => decide (s.2.2.2 < 0)).map callS
theorem nodup_of_pw {R : Int × Int → Int} : ∀ {o : List (Int × Int)}, o.Pairwise (fun a b => R a < R b) → o.Nodup := by
  intro o ho
  refine List.Pairwise.imp ?_ ho
  intro a b hab e
  rw [e] at hab
  omega
theorem pend_sub (l : List Evt) : (pendI l).Sublist (begI l) := List.Sublist.map _ List.filter_sublist

section
variable {l : List Evt} (h : rightB l = true)
include h
theorem spans_pw : (spansI l).Pairwise (fun s t => s.2.2.1 < t.2.2.1) := by
  rw [spans_eq]
  unfold refSpansI
  rw [← right_eq, h, if_pos rfl]
  exact (spansL_pw l l 0).1
theorem begun_of_end {c : Int × Int} (h0 : 0 ≤ placeI c true l) : 0 ≤ placeI c false l := by
  obtain ⟨n, e, e1, e2, e3, e4, e5⟩ := ix_of_place h0
  have hc := seq_of h e2
  have hca : 0 ≤ e.ca := by unfold code at hc; rw [e5] at hc; simp at hc; omega
  obtain ⟨m, d, d1, d2, d3, d4⟩ := cnt_hit e.th l (2 * e.ca).toNat n (by unfold code at hc; rw [e5] at hc; simp at hc; omega)
  have hd := seq_of h d2
  rw [d3, d4] at hd
  have hdr : d.re = false := by
    cases er : d.re with
    | false => rfl
    | true => unfold code at hd; rw [er] at hd; simp at hd; omega
  have hdc : d.ca = e.ca := by unfold code at hd; rw [hdr] at hd; simp at hd; omega
  have := place_at_ix h d2
  rw [hdr, d3, hdc, e3, e4] at this
  rw [this]; omega
theorem beg_pw : (begI l).Pairwise (fun a b => placeI a false l < placeI b false l) := by
  unfold begI
  rw [List.pairwise_map]
  refine List.Pairwise.imp_of_mem ?_ (spans_pw h)
  intro s t hs ht hlt
  have e1 := (spans_fact h hs).2.1
  have e2 := (spans_fact h ht).2.1
  unfold callS
  omega
theorem mem_beg (c : Int × Int) : c ∈ begI l ↔ 0 ≤ placeI c false l := by
  unfold begI
  constructor
  · intro hc
    obtain ⟨s, hs, rfl⟩ := List.mem_map.1 hc
    exact (spans_fact h hs).1
  · intro h0
    obtain ⟨n, e, e1, e2, e3, e4, e5⟩ := ix_of_place h0
    obtain ⟨x, x1, x2, x3, x4⟩ := refSpans_mem l e5 l 0 (List.mem_of_getElem? e2)
    refine List.mem_map.2 ⟨x, ?_, ?_⟩
    · rw [spans_eq]
      unfold refSpansI
      rw [← right_eq, h, if_pos rfl]
      exact x1
    · unfold callS
      rw [x2, x3, e3, e4]
theorem ends_pw : ∀ (rest pre : List Evt), pre ++ rest = l → ((rest.filter fun e => e.re).map fun e => (e.th, e.ca)).Pairwise (fun a b => placeI a true l < placeI b true l) ∧
    ∀ c ∈ (rest.filter fun e => e.re).map fun e => (e.th, e.ca), (pre.length : Int) ≤ placeI c true l
  | [], pre, _ => by simp
  | e :: rest, pre, hp => by
    obtain ⟨h1, h2⟩ := ends_pw rest (pre ++ [e]) (by simpa using hp)
    simp only [len_snoc] at h2
    cases hr : e.re with
    | false =>
      simp only [List.filter_cons, hr, Bool.false_eq_true, if_false]
      exact ⟨h1, fun c hc => by have := h2 c hc; omega⟩
    | true =>
      simp only [List.filter_cons, hr, if_true, List.map_cons, List.pairwise_cons]
      have he : l[pre.length]? = some e := by rw [← hp]; simp
      have hpl := place_at_ix h he
      rw [hr] at hpl
      refine ⟨⟨fun c hc => ?_, h1⟩, fun c hc => ?_⟩
      · have := h2 c hc; omega
      · rcases List.mem_cons.1 hc with rfl | hc
        · omega
        · have := h2 c hc; omega
theorem mem_end (c : Int × Int) : c ∈ endI l ↔ 0 ≤ placeI c true l := by
  constructor
  · intro hc
    have := (ends_pw h l [] rfl).2 c hc
    simpa using this
  · intro h0
    obtain ⟨n, e, e1, e2, e3, e4, e5⟩ := ix_of_place h0
    refine List.mem_map.2 ⟨e, ?_, by rw [e3, e4]⟩
    simp [List.mem_of_getElem? e2, e5]
theorem mem_pend (c : Int × Int) : c ∈ pendI l ↔ 0 ≤ placeI c false l ∧ placeI c true l < 0 := by
  unfold pendI
  constructor
  · intro hc
    obtain ⟨s, hs, rfl⟩ := List.mem_map.1 hc
    simp only [List.mem_filter, decide_eq_true_eq] at hs
    obtain ⟨h1, h2, h3⟩ := spans_fact h hs.1
    exact ⟨h1, by unfold callS; omega⟩
  · rintro ⟨h0, h1⟩
    have := (mem_beg h c).2 h0
    obtain ⟨s, hs, rfl⟩ := List.mem_map.1 this
    refine List.mem_map.2 ⟨s, ?_, rfl⟩
    simp only [List.mem_filter, decide_eq_true_eq]
    have := (spans_fact h hs).2.2
    unfold callS at h1
    exact ⟨hs, by omega⟩
theorem beg_nodup : (begI l).Nodup := nodup_of_pw (beg_pw h)
theorem end_nodup : (endI l).Nodup := nodup_of_pw (ends_pw h l [] rfl).1
theorem both_nodup : (endI l ++ pendI l).Nodup := by
  rw [List.nodup_append]
  refine ⟨end_nodup h, List.Nodup.sublist (pend_sub l) (beg_nodup h), fun a ha b hb e => ?_⟩
  rw [e] at ha
  have := (mem_end h b).1 ha
  have := (mem_pend h b).1 hb
  omega
theorem nbf {a b : Int × Int} (hx : ¬ (0 ≤ placeI a true l ∧ placeI a true l < placeI b false l)) : beforeB l a b = false := by
  cases e : beforeB l a b with
  | false => rfl
  | true => exact absurd ((before_iff h a b).1 e) hx
theorem fits_beg : fitsB l (begI l) = 0 := by
  refine fits0 h (fun c hc => (mem_beg h c).1 hc) (beg_nodup h) (fun s hs _ => List.mem_map.2 ⟨s, hs, rfl⟩) ?_
  refine List.Pairwise.imp_of_mem ?_ (beg_pw h)
  intro d c hd hc hlt
  refine nbf h fun hx => ?_
  have := end_after h c hx.1 ((mem_beg h c).1 hc)
  omega
theorem end_ok : (endI l).Pairwise (fun d c => beforeB l c d = false) := by
  refine List.Pairwise.imp_of_mem ?_ (ends_pw h l [] rfl).1
  intro d c hd hc hlt
  refine nbf h fun hx => ?_
  have h1 := (mem_end h d).1 hd
  have := end_after h d h1 (begun_of_end h h1)
  omega
theorem fits_end : fitsB l (endI l) = 0 := by
  refine fits0 h (fun c hc => begun_of_end h ((mem_end h c).1 hc)) (end_nodup h) (fun s hs h0 => (mem_end h _).2 ?_) (end_ok h)
  have := (spans_fact h hs).2.2
  omega
theorem fits_both : fitsB l (endI l ++ pendI l) = 0 := by
  refine fits0 h (fun c hc => ?_) (both_nodup h) (fun s hs h0 => ?_) ?_
  · rcases List.mem_append.1 hc with hc | hc
    · exact begun_of_end h ((mem_end h c).1 hc)
    · exact ((mem_pend h c).1 hc).1
  · have := (spans_fact h hs).2.2
    exact List.mem_append.2 (.inl ((mem_end h _).2 (by omega)))
  · rw [List.pairwise_append]
    refine ⟨end_ok h, ?_, fun d hd c hc => nbf h ?_⟩
    · refine List.Pairwise.imp_of_mem ?_ (List.Nodup.sublist (pend_sub l) (beg_nodup h))
      intro d c hd hc _
      have := ((mem_pend h c).1 hc).2
      exact nbf h (by omega)
    · have := ((mem_pend h c).1 hc).2
      omega
theorem both_len : (endI l ++ pendI l).length = (begI l).length := by
  refine Nat.le_antisymm (len_of_sub _ _ (both_nodup h) fun c hc => ?_) (len_of_sub _ _ (beg_nodup h) fun c hc => ?_)
  · rcases List.mem_append.1 hc with hc | hc
    · exact (mem_beg h c).2 (begun_of_end h ((mem_end h c).1 hc))
    · exact (mem_beg h c).2 ((mem_pend h c).1 hc).1
  · have h0 := (mem_beg h c).1 hc
    by_cases h1 : 0 ≤ placeI c true l
    · exact List.mem_append.2 (.inl ((mem_end h c).2 h1))
    · exact List.mem_append.2 (.inr ((mem_pend h c).2 ⟨h0, by omega⟩))
end

end Go.Ev

namespace Go.Ev
open Go Go.RowKit Go.Proofs

/-- the same, and a site's newest object becomes its first -/
def symC (C : Ctx) (O : Task → Res → Prop) (n : Nat) (fn : FuncId) (rd : Bool) (c : Code) (s : St) (sc : Script) (keep L : List Nat) (si m : Nat) : SM (X × St) :=
  match symD C O n fn rd c s sc keep L with
  | some ((x, s1), sc', ob) => match avColL si m s1.σ with
    | some σ' => some ((x, { σ := σ', h := s1.h.col si }), sc', ob ++ [s.h.count si = 0, s1.h.count si = m + 1, hFreeO si s1.h = true])
    | none => none
  | none => none
theorem symC_ev {C : Ctx} {O : Task → Res → Prop} {n : Nat} {fn : FuncId} {rd : Bool} {c : Code} {s s1 : St} {x : X} {sc sc' : Script} {keep L : List Nat} {si m : Nat} {ob : List Prop} (h : symC C O n fn rd c s sc keep L si m = some ((x, s1), sc', ob)) (hp : AllP ob) :
    Ev C O (.code fn rd c s) (.code x s1) := by
  unfold symC at h
  split at h
  · rename_i x1 s2 sc1 ob1 e
    split at h
    · rename_i σ' e2
      simp only [Option.some.injEq, Prod.mk.injEq] at h
      obtain ⟨⟨rfl, rfl⟩, rfl, rfl⟩ := h
      exact .colOut _ _ _ _ _ _ si m σ' (hp _ (by simp)) (hp _ (by simp)) (hp _ (by simp)) e2 (symD_ev e hp.left)
    · cases h
  · cases h

def s24 (es : List (Value × Bool × List DV)) (many : Int) (sp : List S4) : St :=
  { σ := slots 58 [(3, .ptr (site 24 3) 0 0), (4, .ptr (site 24 4) 0 0), (6, .d (.mp es)), (7, .d (.v (.slice none 0 0))), (28, .d (.sl 4 false (rowsS sp))), (29, vi (sp.length : Nat)), (30, vi 0)], h := h24 many (.d (.v (.slice none 0 0))) [] [] }
def e24 (es : List (Value × Bool × List DV)) (many : Int) (n : Nat) (l : List (Int × Int)) : St :=
  { σ := slots 58 [(3, .ptr (site 24 3) 0 0), (4, .ptr (site 24 4) 0 0), (6, .d (.mp es)), (7, lS n)], h := hL many (.d (.v (.slice none 0 0))) (pcells l) }
theorem l24_1 (es : List (Value × Bool × List DV)) (many : Int) (a0 : S4) : Ev C9 noO (.code 24 false (loopOf Try.prog 24 0) (s24 es many [a0])) (.code (.exit 1) (e24 es many 1 ([a0].map callS))) :=
  symC_ev (n := 400) (sc := []) (keep := [3, 4, 6, 7]) (L := [site 24 9]) (si := site 24 41) (m := 0) (sc' := []) (by kernel_rfl) (AllP_cons (rfl : true = true) (AllP_cons (rfl : true = true) (AllP_cons (rfl : true = true) (AllP_cons (rfl : 0 = 0) (AllP_cons (rfl : 1 = 1) (AllP_cons (rfl : true = true) AllP_nil))))))
theorem l24_2 (es : List (Value × Bool × List DV)) (many : Int) (a0 a1 : S4) : Ev C9 noO (.code 24 false (loopOf Try.prog 24 0) (s24 es many [a0, a1])) (.code (.exit 1) (e24 es many 2 ([a0, a1].map callS))) :=
  symC_ev (n := 400) (sc := []) (keep := [3, 4, 6, 7]) (L := [site 24 9]) (si := site 24 41) (m := 1) (sc' := []) (by kernel_rfl) (AllP_cons (rfl : true = true) (AllP_cons (rfl : true = true) (AllP_cons (rfl : true = true) (AllP_cons (rfl : 0 = 0) (AllP_cons (rfl : 2 = 2) (AllP_cons (rfl : true = true) AllP_nil))))))
theorem l24_3 (es : List (Value × Bool × List DV)) (many : Int) (a0 a1 a2 : S4) : Ev C9 noO (.code 24 false (loopOf Try.prog 24 0) (s24 es many [a0, a1, a2])) (.code (.exit 1) (e24 es many 3 ([a0, a1, a2].map callS))) :=
  symC_ev (n := 400) (sc := []) (keep := [3, 4, 6, 7]) (L := [site 24 9]) (si := site 24 41) (m := 2) (sc' := []) (by kernel_rfl) (AllP_cons (rfl : true = true) (AllP_cons (rfl : true = true) (AllP_cons (rfl : true = true) (AllP_cons (rfl : 0 = 0) (AllP_cons (rfl : 3 = 3) (AllP_cons (rfl : true = true) AllP_nil))))))
theorem l24_4 (es : List (Value × Bool × List DV)) (many : Int) (a0 a1 a2 a3 : S4) : Ev C9 noO (.code 24 false (loopOf Try.prog 24 0) (s24 es many [a0, a1, a2, a3])) (.code (.exit 1) (e24 es many 4 ([a0, a1, a2, a3].map callS))) :=
  symC_ev (n := 400) (sc := []) (keep := [3, 4, 6, 7]) (L := [site 24 9]) (si := site 24 41) (m := 3) (sc' := []) (by kernel_rfl) (AllP_cons (rfl : true = true) (AllP_cons (rfl : true = true) (AllP_cons (rfl : true = true) (AllP_cons (rfl : 0 = 0) (AllP_cons (rfl : 4 = 4) (AllP_cons (rfl : true = true) AllP_nil))))))
theorem l24_5 (es : List (Value × Bool × List DV)) (many : Int) (a0 a1 a2 a3 a4 : S4) : Ev C9 noO (.code 24 false (loopOf Try.prog 24 0) (s24 es many [a0, a1, a2, a3, a4])) (.code (.exit 1) (e24 es many 5 ([a0, a1, a2, a3, a4].map callS))) :=
  symC_ev (n := 400) (sc := []) (keep := [3, 4, 6, 7]) (L := [site 24 9]) (si := site 24 41) (m := 4) (sc' := []) (by kernel_rfl) (AllP_cons (rfl : true = true) (AllP_cons (rfl : true = true) (AllP_cons (rfl : true = true) (AllP_cons (rfl : 0 = 0) (AllP_cons (rfl : 5 = 5) (AllP_cons (rfl : true = true) AllP_nil))))))
theorem l24_6 (es : List (Value × Bool × List DV)) (many : Int) (a0 a1 a2 a3 a4 a5 : S4) : Ev C9 noO (.code 24 false (loopOf Try.prog 24 0) (s24 es many [a0, a1, a2, a3, a4, a5])) (.code (.exit 1) (e24 es many 6 ([a0, a1, a2, a3, a4, a5].map callS))) :=
  symC_ev (n := 400) (sc := []) (keep := [3, 4, 6, 7]) (L := [site 24 9]) (si := site 24 41) (m := 5) (sc' := []) (by kernel_rfl) (AllP_cons (rfl : true = true) (AllP_cons (rfl : true = true) (AllP_cons (rfl : true = true) (AllP_cons (rfl : 0 = 0) (AllP_cons (rfl : 6 = 6) (AllP_cons (rfl : true = true) AllP_nil))))))
theorem l24_7 (es : List (Value × Bool × List DV)) (many : Int) (a0 a1 a2 a3 a4 a5 a6 : S4) : Ev C9 noO (.code 24 false (loopOf Try.prog 24 0) (s24 es many [a0, a1, a2, a3, a4, a5, a6])) (.code (.exit 1) (e24 es many 7 ([a0, a1, a2, a3, a4, a5, a6].map callS))) :=
  symC_ev (n := 400) (sc := []) (keep := [3, 4, 6, 7]) (L := [site 24 9]) (si := site 24 41) (m := 6) (sc' := []) (by kernel_rfl) (AllP_cons (rfl : true = true) (AllP_cons (rfl : true = true) (AllP_cons (rfl : true = true) (AllP_cons (rfl : 0 = 0) (AllP_cons (rfl : 7 = 7) (AllP_cons (rfl : true = true) AllP_nil))))))
theorem l24_all (es : List (Value × Bool × List DV)) (many : Int) (sp : List S4) (h0 : sp ≠ []) (h7 : sp.length ≤ 7) : Ev C9 noO (.code 24 false (loopOf Try.prog 24 0) (s24 es many sp)) (.code (.exit 1) (e24 es many sp.length (sp.map callS))) := by
  match sp, h0, h7 with
  | [a0], _, _ => exact l24_1 es many a0
  | [a0, a1], _, _ => exact l24_2 es many a0 a1
  | [a0, a1, a2], _, _ => exact l24_3 es many a0 a1 a2
  | [a0, a1, a2, a3], _, _ => exact l24_4 es many a0 a1 a2 a3
  | [a0, a1, a2, a3, a4], _, _ => exact l24_5 es many a0 a1 a2 a3 a4
  | [a0, a1, a2, a3, a4, a5], _, _ => exact l24_6 es many a0 a1 a2 a3 a4 a5
  | [a0, a1, a2, a3, a4, a5, a6], _, _ => exact l24_7 es many a0 a1 a2 a3 a4 a5 a6
  | _ :: _ :: _ :: _ :: _ :: _ :: _ :: _ :: _, _, h7 => simp at h7

end Go.Ev

namespace Go.Ev
open Go Go.RowKit Go.Proofs

/-- the loop over a function of a function's code -/
def findRF : Code → Option (Array Tmp × Code × Code)
  | .rangeFunc _ ps a b => some (ps, a, b)
  | .seq a b => match findRF a with
    | some x => some x
    | none => findRF b
  | .cond _ a b => match findRF a with
    | some x => some x
    | none => findRF b
  | .block _ a => findRF a
  | .loop a => findRF a
  | _ => none
def rfOf (P : Program) (f : FuncId) : Option (Array Tmp × Code × Code) := match P.funcs[f]? with
  | some fd => match fd.body with
    | some c => findRF c
    | none => none
  | none => none
def bodyOf (P : Program) (f : FuncId) : Code := match P.funcs[f]? with
  | some fd => match fd.body with
    | some c => c
    | none => .skip
  | none => .skip
noncomputable def loopAO (f : FuncId) (brk : Bool) (pd : Code) (sl : List AV) : AO := match rfOf Try.prog f with
  | some (ps, a, b) => .loop (if brk then .done else .ready) (if brk then some pd else none) f sl ps.toList a b
  | none => .dead

/-- a call of the iterator: its order (row by row), the call that is tried behind it, and where that stands -/
structure Fr where
  r : List (List DV)
  c : Int × Int
  i : Int
def ordA (fr : Nat → Fr) : Nat → AV
  | 0 => .d (.v (.slice none 0 0))
  | j + 1 => .d (.sl 2 false (fr (j + 1)).r)
def yA : Nat → AV
  | 0 => .fn (.yield (loopSite 24) 0) [] []
  | j + 1 => .fn (.yield (loopSite 48) j) [] []
def lA (l : List (Int × Int)) : AV := .d (.sl 2 false (rowsP l))
def fS (l : List (Int × Int)) (i : Int) (j : Nat) : List AV :=
  slots 47 [(1, .ptr (site 40 3) j 0), (2, .ptr (site 40 5) j 0), (3, .ptr (site 40 4) j 0), (4, .ptr (site 48 4) j 0), (20, lA l), (21, vi (l.length : Nat)), (22, vi i)]
def clA (j : Nat) : AV := .fn (.fn (.func 48)) [] [.ptr (site 40 3) j 0, .ptr (site 40 5) j 0, .ptr (site 40 4) j 0]
def fL (l : List (Int × Int)) (i : Int) (j : Nat) : List AV :=
  slots 47 [(1, .ptr (site 40 3) j 0), (2, .ptr (site 40 5) j 0), (3, .ptr (site 40 4) j 0), (4, .ptr (site 48 4) j 0), (20, lA l), (21, vi (l.length : Nat)), (22, vi i), (40, clA (j + 1))]
def down {α : Type} (f : Nat → α) : Nat → List α
  | 0 => []
  | n + 1 => f n :: down f n
def ent (s n : Nat) (f : Nat → AO) : List (Nat × Nat × List AO) := match n with
  | 0 => []
  | n + 1 => [(s, n + 1, down f (n + 1))]
/-- the heap: D iterators wait, b have their boxes, y are under way, c try a call -/
noncomputable def hO (D b y c : Nat) (fr : Nat → Fr) (es : List (Value × Bool × List DV)) (l : List (Int × Int)) (many : Int) (oa : AV) (tk : List (Nat × Nat)) (brk : Bool) : H :=
  { objs := (site 24 3, 1, [.cells [vi many] false]) :: (site 24 4, 1, [.cells [oa] false]) :: (site 24 41, 1, [.dead]) ::
      (loopSite 24, 1, [loopAO 24 brk (.exit 3) (slots 58 [(3, .ptr (site 24 3) 0 0), (4, .ptr (site 24 4) 0 0), (47, clA 0)])]) ::
      (ent (site 40 3) b (fun _ => .cells [.d (.mp es)] false) ++ (ent (site 40 4) b (fun _ => .cells [lA l] false) ++ (ent (site 40 5) b (fun j => .cells [ordA fr j] false) ++
      (ent (site 48 4) y (fun j => .cells [yA j] false) ++ (ent (site 48 6) c (fun j => .cells [vi (fr j).c.1, vi (fr j).c.2] false) ++
       ent (loopSite 48) D (fun j => loopAO 48 brk .ret (fL l (fr j).i j))))))), toks := tk }
def args48 (D : Nat) : List AV := [yA D, .ptr (site 40 3) D 0, .ptr (site 40 5) D 0, .ptr (site 40 4) D 0]
/-- blocked -/
def blkF (D : Nat) : AV := .fn (.fn (.func 51)) [] [.ptr (site 40 5) D 0, .ptr (site 40 3) D 0, .ptr (site 48 6) D 0]

def ordP (fr : Nat → Fr) : Nat → PV
  | 0 => nilPV
  | j + 1 => .one (.sl 2 false (fr (j + 1)).r)
def rowC (c : Int × Int) : List DV := [di c.1, di c.2]
/-- the D-th iterator tries a call -/
def updC (fr : Nat → Fr) (D : Nat) (c : Int × Int) (i : Int) : Nat → Fr := fun j => if j = D then { r := (fr D).r, c := c, i := i } else fr j
/-- and a next one begins -/
def updO (fr : Nat → Fr) (D : Nat) (c : Int × Int) (i : Int) (r : List (List DV)) : Nat → Fr := fun j => if j = D then { r := (fr D).r, c := c, i := i } else if j = D + 1 then { r := r, c := (0, 0), i := 0 } else fr j
/-- what has been told so far: nothing, or a row -/
def OutOK (oa : AV) : Prop := oa = .d (.v (.slice none 0 0)) ∨ ∃ rows g, oa = .st 1 rows (site 24 56) g
def unitA : AV := .d (.v (.tuple #[]))

/-- a call, its objects taken out of the heap again -/
def symCT (C : Ctx) (O : Task → Res → Prop) (n : Nat) (f : FuncId) (args : List AV) (h : H) (sc : Script) (keep : List Nat) (L : List (Nat × Nat)) : SM (AV × H) :=
  match C.P.funcs[f]? with
  | some fd => match fd.body with
    | some c => match symT C O n f false c { σ := args ++ List.replicate (fd.ntmps - args.length) undefA, h := h } sc keep L with
      | some ((.normal, s), sc1, ob1) | some ((.ret, s), sc1, ob1) => match resultsA C fd s with
        | some a => some ((a, s.h), sc1, ob1)
        | none => none
      | _ => none
    | none => none
  | none => none
theorem symCT_ev {C : Ctx} {O : Task → Res → Prop} {n : Nat} {f : FuncId} {args : List AV} {h h1 : H} {a : AV} {sc sc' : Script} {keep : List Nat} {L : List (Nat × Nat)} {ob : List Prop} (e : symCT C O n f args h sc keep L = some ((a, h1), sc', ob)) (hp : AllP ob) :
    Ev C O (.call f args h) (.val a h1) := by
  unfold symCT at e
  split at e
  · rename_i fd hf
    split at e
    · rename_i c hb
      split at e
      · rename_i s sc1 ob1 e1
        split at e
        · rename_i a1 hr
          simp only [Option.some.injEq, Prod.mk.injEq] at e
          obtain ⟨⟨rfl, rfl⟩, rfl, rfl⟩ := e
          exact .call _ _ _ fd c .normal s _ hf hb (symT_ev e1 hp) (.inl rfl) hr
        · cases e
      · rename_i s sc1 ob1 e1
        split at e
        · rename_i a1 hr
          simp only [Option.some.injEq, Prod.mk.injEq] at e
          obtain ⟨⟨rfl, rfl⟩, rfl, rfl⟩ := e
          exact .call _ _ _ fd c .ret s _ hf hb (symT_ev e1 hp) (.inr rfl) hr
        · cases e
      · cases e
    · cases e
  · cases e

end Go.Ev

namespace Go.Ev
open Go Go.RowKit Go.Proofs

/-- the next order's rows, and how many stood there -/
def nr (fr : Nat → Fr) (D : Nat) (c : Int × Int) : List (List DV) := match D with
  | 0 => [rowC c]
  | D + 1 => (fr (D + 1)).r ++ [rowC c]
def nl (fr : Nat → Fr) (D : Nat) : Nat := match D with
  | 0 => 0
  | D + 1 => (fr (D + 1)).r.length
def ordD (fr : Nat → Fr) (D : Nat) : DV := match D with
  | 0 => .v (.slice none 0 0)
  | D + 1 => .sl 2 false (fr (D + 1)).r
theorem f6 (D : Nat) (hD : D < 8) (fr : Nat → Fr) (es : List (Value × Bool × List DV)) (l : List (Int × Int)) (many : Int) {oa : AV} (ho : OutOK oa) (tk : List (Nat × Nat)) (brk : Bool) : ((hO D (D + 1) (D + 1) D fr es l many oa tk brk).objs.all fun e => e.2.2.all (objFreeT [(site 48 6, D)])) = true := by
  rcases ho with rfl | ⟨_, _, rfl⟩ <;> exact (by match D, hD with | 0, _ => (show _ = _); kernel_rfl | 1, _ => (show _ = _); kernel_rfl | 2, _ => (show _ = _); kernel_rfl | 3, _ => (show _ = _); kernel_rfl | 4, _ => (show _ = _); kernel_rfl | 5, _ => (show _ = _); kernel_rfl | 6, _ => (show _ = _); kernel_rfl | 7, _ => (show _ = _); kernel_rfl | n + 8, h => omega)
theorem f5 (D : Nat) (hD : D < 8) (fr : Nat → Fr) (es : List (Value × Bool × List DV)) (l : List (Int × Int)) (many : Int) {oa : AV} (ho : OutOK oa) (tk : List (Nat × Nat)) (brk : Bool) : ((hO D (D + 1) (D + 1) D fr es l many oa tk brk).objs.all fun e => e.2.2.all (objFreeT [(site 40 3, D + 1), (site 40 4, D + 1), (site 40 5, D + 1), (site 48 6, D), (loopSite 48, D)])) = true := by
  rcases ho with rfl | ⟨_, _, rfl⟩ <;> exact (by match D, hD with | 0, _ => (show _ = _); kernel_rfl | 1, _ => (show _ = _); kernel_rfl | 2, _ => (show _ = _); kernel_rfl | 3, _ => (show _ = _); kernel_rfl | 4, _ => (show _ = _); kernel_rfl | 5, _ => (show _ = _); kernel_rfl | 6, _ => (show _ = _); kernel_rfl | 7, _ => (show _ = _); kernel_rfl | n + 8, h => omega)
theorem f4 (D : Nat) (hD : D < 8) (fr : Nat → Fr) (es : List (Value × Bool × List DV)) (l : List (Int × Int)) (many : Int) {oa : AV} (ho : OutOK oa) (tk : List (Nat × Nat)) (brk : Bool) : ((hO D (D + 1) D D fr es l many oa tk brk).objs.all fun e => e.2.2.all (objFreeT [(site 48 4, D)])) = true := by
  rcases ho with rfl | ⟨_, _, rfl⟩ <;> exact (by match D, hD with | 0, _ => (show _ = _); kernel_rfl | 1, _ => (show _ = _); kernel_rfl | 2, _ => (show _ = _); kernel_rfl | 3, _ => (show _ = _); kernel_rfl | 4, _ => (show _ = _); kernel_rfl | 5, _ => (show _ = _); kernel_rfl | 6, _ => (show _ = _); kernel_rfl | 7, _ => (show _ = _); kernel_rfl | n + 8, h => omega)
theorem f1 (D : Nat) (hD : D < 8) (fr : Nat → Fr) (es : List (Value × Bool × List DV)) (l : List (Int × Int)) (many : Int) {oa : AV} (ho : OutOK oa) (tk : List (Nat × Nat)) (brk : Bool) : ((hO D (D + 1) (D + 1) (D + 1) fr es l many oa tk brk).objs.all fun e => e.2.2.all (objFreeT [(site 51 4, 0)])) = true := by
  rcases ho with rfl | ⟨_, _, rfl⟩ <;> exact (by match D, hD with | 0, _ => (show _ = _); kernel_rfl | 1, _ => (show _ = _); kernel_rfl | 2, _ => (show _ = _); kernel_rfl | 3, _ => (show _ = _); kernel_rfl | 4, _ => (show _ = _); kernel_rfl | 5, _ => (show _ = _); kernel_rfl | 6, _ => (show _ = _); kernel_rfl | 7, _ => (show _ = _); kernel_rfl | n + 8, h => omega)
set_option maxRecDepth 20000 in
theorem gq0 (D : Nat) (hD : D < 8) (fr : Nat → Fr) (es : List (Value × Bool × List DV)) (l : List (Int × Int)) (many : Int) (oa : AV) (tk : List (Nat × Nat)) (i : Int) (h1 : decide (i < ((l.length : Nat) : Int)) = false) : Ev C9 noO (.code 48 false (loopOf Try.prog 48 0) { σ := fS l i D, h := (hO D (D + 1) (D + 1) D fr es l many oa tk false) }) (.code (.exit 0) { σ := slots 47 [], h := (hO D (D + 1) (D + 1) D fr es l many oa tk false) }) :=
  symM_ev (n := 60) (sc := [(site 48 23, Dec.b false)]) (keep := []) (sc' := []) (by match D, hD with | 0, _ => (show _ = _); kernel_rfl | 1, _ => (show _ = _); kernel_rfl | 2, _ => (show _ = _); kernel_rfl | 3, _ => (show _ = _); kernel_rfl | 4, _ => (show _ = _); kernel_rfl | 5, _ => (show _ = _); kernel_rfl | 6, _ => (show _ = _); kernel_rfl | 7, _ => (show _ = _); kernel_rfl | n + 8, h => omega) (AllP_cons h1 AllP_nil)
set_option maxRecDepth 20000 in
theorem gq1 (D : Nat) (hD : D < 8) (fr : Nat → Fr) (es : List (Value × Bool × List DV)) (l : List (Int × Int)) (many : Int) (oa : AV) (ho : OutOK oa) (tk : List (Nat × Nat)) (i i1 : Int) (c : Int × Int) (x : X) (s : St) (h1 : decide (i < ((l.length : Nat) : Int)) = true) (h2 : 0 ≤ i ∧ (rowsP l)[i.toNat]? = some (rowC c)) (h3 : containsSpec [ordP fr D, .agg (rowC c)] = some [pbool true]) (h4 : wr64 (i + 1) = i1) (h5 : Ev C9 noO (.code 48 false (loopOf Try.prog 48 0) { σ := fS l i1 D, h := (hO D (D + 1) (D + 1) D fr es l many oa tk false) }) (.code x s)) : Ev C9 noO (.code 48 false (loopOf Try.prog 48 0) { σ := fS l i D, h := (hO D (D + 1) (D + 1) D fr es l many oa tk false) }) (.code x s) :=
  sym_ev 60 _ [(site 48 23, Dec.b true), (site 48 24, Dec.row (rowC c)), (site 48 28, Dec.prim [pbool true]), (site 48 46, Dec.int i1), (site 48 8002, Dec.trunc [(site 48 6, D)] [1, 2, 3, 4, 20, 21, 22]), (site 48 8001, Dec.loop [1, 2, 3, 4, 20, 21, 22] x s)] _ [] _ (by match D, hD with | 0, _ => (show _ = _); kernel_rfl | 1, _ => (show _ = _); kernel_rfl | 2, _ => (show _ = _); kernel_rfl | 3, _ => (show _ = _); kernel_rfl | 4, _ => (show _ = _); kernel_rfl | 5, _ => (show _ = _); kernel_rfl | 6, _ => (show _ = _); kernel_rfl | 7, _ => (show _ = _); kernel_rfl | n + 8, h => omega) (AllP_cons h1 (AllP_cons h2 (AllP_cons h3 (AllP_cons h4 (AllP_cons (rfl : true = true) (AllP_cons (f6 D hD fr es l many ho tk false) (AllP_cons (rfl : true = true) (AllP_cons h5 AllP_nil))))))))
set_option maxRecDepth 20000 in
theorem gq2 (D : Nat) (hD : D < 8) (fr : Nat → Fr) (es : List (Value × Bool × List DV)) (l : List (Int × Int)) (many : Int) (oa : AV) (ho : OutOK oa) (tk : List (Nat × Nat)) (i i1 : Int) (c : Int × Int) (x : X) (s : St) (h1 : decide (i < ((l.length : Nat) : Int)) = true) (h2 : 0 ≤ i ∧ (rowsP l)[i.toNat]? = some (rowC c)) (h3 : containsSpec [ordP fr D, .agg (rowC c)] = some [pbool false]) (hc : Ev C9 noO (.call 52 [lA l, blkF D] (hO D (D + 1) (D + 1) (D + 1) (updC fr D c i) es l many oa tk false)) (.val (vb true) (hO D (D + 1) (D + 1) (D + 1) (updC fr D c i) es l many oa tk false))) (h4 : wr64 (i + 1) = i1) (h5 : Ev C9 noO (.code 48 false (loopOf Try.prog 48 0) { σ := fS l i1 D, h := (hO D (D + 1) (D + 1) D fr es l many oa tk false) }) (.code x s)) : Ev C9 noO (.code 48 false (loopOf Try.prog 48 0) { σ := fS l i D, h := (hO D (D + 1) (D + 1) D fr es l many oa tk false) }) (.code x s) :=
  sym_ev 60 _ [(site 48 23, Dec.b true), (site 48 24, Dec.row (rowC c)), (site 48 28, Dec.prim [pbool false]), (site 48 32, Dec.call (vb true) (hO D (D + 1) (D + 1) (D + 1) (updC fr D c i) es l many oa tk false)), (site 48 46, Dec.int i1), (site 48 8002, Dec.trunc [(site 48 6, D)] [1, 2, 3, 4, 20, 21, 22]), (site 48 8001, Dec.loop [1, 2, 3, 4, 20, 21, 22] x s)] _ [] _ (by match D, hD with | 0, _ => (show _ = _); kernel_rfl | 1, _ => (show _ = _); kernel_rfl | 2, _ => (show _ = _); kernel_rfl | 3, _ => (show _ = _); kernel_rfl | 4, _ => (show _ = _); kernel_rfl | 5, _ => (show _ = _); kernel_rfl | 6, _ => (show _ = _); kernel_rfl | 7, _ => (show _ = _); kernel_rfl | n + 8, h => omega) (AllP_cons h1 (AllP_cons h2 (AllP_cons h3 (AllP_cons hc (AllP_cons h4 (AllP_cons (rfl : true = true) (AllP_cons (f6 D hD fr es l many ho tk false) (AllP_cons (rfl : true = true) (AllP_cons h5 AllP_nil)))))))))
theorem gq3 (D : Nat) (hD : D < 7) (fr : Nat → Fr) (es : List (Value × Bool × List DV)) (l : List (Int × Int)) (many : Int) (oa oa1 : AV) (ho1 : OutOK oa1) (tk tk1 : List (Nat × Nat)) (i i1 : Int) (c : Int × Int) (x : X) (s : St) (h1 : decide (i < ((l.length : Nat) : Int)) = true) (h2 : 0 ≤ i ∧ (rowsP l)[i.toNat]? = some (rowC c)) (h3 : containsSpec [ordP fr D, .agg (rowC c)] = some [pbool false]) (hc : Ev C9 noO (.call 52 [lA l, blkF D] (hO D (D + 1) (D + 1) (D + 1) (updC fr D c i) es l many oa tk false)) (.val (vb false) (hO D (D + 1) (D + 1) (D + 1) (updC fr D c i) es l many oa tk false))) (hf : false = false ∧ fitsP (nl fr D) 1 16) (he : Ev C9 noO (.call 48 (args48 (D + 1)) (hO (D + 1) (D + 2) (D + 1) (D + 1) (updO fr D c i (nr fr D c)) es l many oa tk false)) (.val unitA (hO (D + 1) (D + 2) (D + 1) (D + 1) (updO fr D c i (nr fr D c)) es l many oa1 tk1 false))) (h4 : wr64 (i + 1) = i1) (h5 : Ev C9 noO (.code 48 false (loopOf Try.prog 48 0) { σ := fS l i1 D, h := (hO D (D + 1) (D + 1) D fr es l many oa1 tk1 false) }) (.code x s)) : Ev C9 noO (.code 48 false (loopOf Try.prog 48 0) { σ := fS l i D, h := (hO D (D + 1) (D + 1) D fr es l many oa tk false) }) (.code x s) := by
  revert h1 h2 h3 hc hf he h4 h5
  match D, hD with
  | 0, _ => intro h1 h2 h3 hc hf he h4 h5; exact sym_ev 60 _ [(site 48 23, Dec.b true), (site 48 24, Dec.row (rowC c)), (site 48 28, Dec.prim [pbool false]), (site 48 32, Dec.call (vb false) (hO 0 (1) (1) (1) (updC fr 0 c i) es l many oa tk false)), (site 48 39, Dec.app false), (site 48 8003, Dec.rng [1, 2, 3, 4, 20, 21, 22, 40] unitA (hO (1) (2) (1) (1) (updO fr 0 c i (nr fr 0 c)) es l many oa1 tk1 false)), (site 48 46, Dec.int i1), (site 48 8002, Dec.trunc [(site 40 3, 1), (site 40 4, 1), (site 40 5, 1), (site 48 6, 0), (loopSite 48, 0)] [1, 2, 3, 4, 20, 21, 22]), (site 48 8001, Dec.loop [1, 2, 3, 4, 20, 21, 22] x s)] _ [] _ (by kernel_rfl) (AllP_cons h1 (AllP_cons h2 (AllP_cons h3 (AllP_cons hc (AllP_cons hf (AllP_cons he (AllP_cons h4 (AllP_cons (rfl : true = true) (AllP_cons (f5 0 (by omega) fr es l many ho1 tk1 false) (AllP_cons (rfl : true = true) (AllP_cons h5 AllP_nil)))))))))))
  | 1, _ => intro h1 h2 h3 hc hf he h4 h5; exact sym_ev 60 _ [(site 48 23, Dec.b true), (site 48 24, Dec.row (rowC c)), (site 48 28, Dec.prim [pbool false]), (site 48 32, Dec.call (vb false) (hO 1 (2) (2) (2) (updC fr 1 c i) es l many oa tk false)), (site 48 39, Dec.app false), (site 48 8003, Dec.rng [1, 2, 3, 4, 20, 21, 22, 40] unitA (hO (2) (3) (2) (2) (updO fr 1 c i (nr fr 1 c)) es l many oa1 tk1 false)), (site 48 46, Dec.int i1), (site 48 8002, Dec.trunc [(site 40 3, 2), (site 40 4, 2), (site 40 5, 2), (site 48 6, 1), (loopSite 48, 1)] [1, 2, 3, 4, 20, 21, 22]), (site 48 8001, Dec.loop [1, 2, 3, 4, 20, 21, 22] x s)] _ [] _ (by kernel_rfl) (AllP_cons h1 (AllP_cons h2 (AllP_cons h3 (AllP_cons hc (AllP_cons hf (AllP_cons he (AllP_cons h4 (AllP_cons (rfl : true = true) (AllP_cons (f5 1 (by omega) fr es l many ho1 tk1 false) (AllP_cons (rfl : true = true) (AllP_cons h5 AllP_nil)))))))))))
  | 2, _ => intro h1 h2 h3 hc hf he h4 h5; exact sym_ev 60 _ [(site 48 23, Dec.b true), (site 48 24, Dec.row (rowC c)), (site 48 28, Dec.prim [pbool false]), (site 48 32, Dec.call (vb false) (hO 2 (3) (3) (3) (updC fr 2 c i) es l many oa tk false)), (site 48 39, Dec.app false), (site 48 8003, Dec.rng [1, 2, 3, 4, 20, 21, 22, 40] unitA (hO (3) (4) (3) (3) (updO fr 2 c i (nr fr 2 c)) es l many oa1 tk1 false)), (site 48 46, Dec.int i1), (site 48 8002, Dec.trunc [(site 40 3, 3), (site 40 4, 3), (site 40 5, 3), (site 48 6, 2), (loopSite 48, 2)] [1, 2, 3, 4, 20, 21, 22]), (site 48 8001, Dec.loop [1, 2, 3, 4, 20, 21, 22] x s)] _ [] _ (by kernel_rfl) (AllP_cons h1 (AllP_cons h2 (AllP_cons h3 (AllP_cons hc (AllP_cons hf (AllP_cons he (AllP_cons h4 (AllP_cons (rfl : true = true) (AllP_cons (f5 2 (by omega) fr es l many ho1 tk1 false) (AllP_cons (rfl : true = true) (AllP_cons h5 AllP_nil)))))))))))
  | 3, _ => intro h1 h2 h3 hc hf he h4 h5; exact sym_ev 60 _ [(site 48 23, Dec.b true), (site 48 24, Dec.row (rowC c)), (site 48 28, Dec.prim [pbool false]), (site 48 32, Dec.call (vb false) (hO 3 (4) (4) (4) (updC fr 3 c i) es l many oa tk false)), (site 48 39, Dec.app false), (site 48 8003, Dec.rng [1, 2, 3, 4, 20, 21, 22, 40] unitA (hO (4) (5) (4) (4) (updO fr 3 c i (nr fr 3 c)) es l many oa1 tk1 false)), (site 48 46, Dec.int i1), (site 48 8002, Dec.trunc [(site 40 3, 4), (site 40 4, 4), (site 40 5, 4), (site 48 6, 3), (loopSite 48, 3)] [1, 2, 3, 4, 20, 21, 22]), (site 48 8001, Dec.loop [1, 2, 3, 4, 20, 21, 22] x s)] _ [] _ (by kernel_rfl) (AllP_cons h1 (AllP_cons h2 (AllP_cons h3 (AllP_cons hc (AllP_cons hf (AllP_cons he (AllP_cons h4 (AllP_cons (rfl : true = true) (AllP_cons (f5 3 (by omega) fr es l many ho1 tk1 false) (AllP_cons (rfl : true = true) (AllP_cons h5 AllP_nil)))))))))))
  | 4, _ => intro h1 h2 h3 hc hf he h4 h5; exact sym_ev 60 _ [(site 48 23, Dec.b true), (site 48 24, Dec.row (rowC c)), (site 48 28, Dec.prim [pbool false]), (site 48 32, Dec.call (vb false) (hO 4 (5) (5) (5) (updC fr 4 c i) es l many oa tk false)), (site 48 39, Dec.app false), (site 48 8003, Dec.rng [1, 2, 3, 4, 20, 21, 22, 40] unitA (hO (5) (6) (5) (5) (updO fr 4 c i (nr fr 4 c)) es l many oa1 tk1 false)), (site 48 46, Dec.int i1), (site 48 8002, Dec.trunc [(site 40 3, 5), (site 40 4, 5), (site 40 5, 5), (site 48 6, 4), (loopSite 48, 4)] [1, 2, 3, 4, 20, 21, 22]), (site 48 8001, Dec.loop [1, 2, 3, 4, 20, 21, 22] x s)] _ [] _ (by kernel_rfl) (AllP_cons h1 (AllP_cons h2 (AllP_cons h3 (AllP_cons hc (AllP_cons hf (AllP_cons he (AllP_cons h4 (AllP_cons (rfl : true = true) (AllP_cons (f5 4 (by omega) fr es l many ho1 tk1 false) (AllP_cons (rfl : true = true) (AllP_cons h5 AllP_nil)))))))))))
  | 5, _ => intro h1 h2 h3 hc hf he h4 h5; exact sym_ev 60 _ [(site 48 23, Dec.b true), (site 48 24, Dec.row (rowC c)), (site 48 28, Dec.prim [pbool false]), (site 48 32, Dec.call (vb false) (hO 5 (6) (6) (6) (updC fr 5 c i) es l many oa tk false)), (site 48 39, Dec.app false), (site 48 8003, Dec.rng [1, 2, 3, 4, 20, 21, 22, 40] unitA (hO (6) (7) (6) (6) (updO fr 5 c i (nr fr 5 c)) es l many oa1 tk1 false)), (site 48 46, Dec.int i1), (site 48 8002, Dec.trunc [(site 40 3, 6), (site 40 4, 6), (site 40 5, 6), (site 48 6, 5), (loopSite 48, 5)] [1, 2, 3, 4, 20, 21, 22]), (site 48 8001, Dec.loop [1, 2, 3, 4, 20, 21, 22] x s)] _ [] _ (by kernel_rfl) (AllP_cons h1 (AllP_cons h2 (AllP_cons h3 (AllP_cons hc (AllP_cons hf (AllP_cons he (AllP_cons h4 (AllP_cons (rfl : true = true) (AllP_cons (f5 5 (by omega) fr es l many ho1 tk1 false) (AllP_cons (rfl : true = true) (AllP_cons h5 AllP_nil)))))))))))
  | 6, _ => intro h1 h2 h3 hc hf he h4 h5; exact sym_ev 60 _ [(site 48 23, Dec.b true), (site 48 24, Dec.row (rowC c)), (site 48 28, Dec.prim [pbool false]), (site 48 32, Dec.call (vb false) (hO 6 (7) (7) (7) (updC fr 6 c i) es l many oa tk false)), (site 48 39, Dec.app false), (site 48 8003, Dec.rng [1, 2, 3, 4, 20, 21, 22, 40] unitA (hO (7) (8) (7) (7) (updO fr 6 c i (nr fr 6 c)) es l many oa1 tk1 false)), (site 48 46, Dec.int i1), (site 48 8002, Dec.trunc [(site 40 3, 7), (site 40 4, 7), (site 40 5, 7), (site 48 6, 6), (loopSite 48, 6)] [1, 2, 3, 4, 20, 21, 22]), (site 48 8001, Dec.loop [1, 2, 3, 4, 20, 21, 22] x s)] _ [] _ (by kernel_rfl) (AllP_cons h1 (AllP_cons h2 (AllP_cons h3 (AllP_cons hc (AllP_cons hf (AllP_cons he (AllP_cons h4 (AllP_cons (rfl : true = true) (AllP_cons (f5 6 (by omega) fr es l many ho1 tk1 false) (AllP_cons (rfl : true = true) (AllP_cons h5 AllP_nil)))))))))))
  | n + 7, h => omega
theorem gq4 (D : Nat) (hD : D < 7) (fr : Nat → Fr) (es : List (Value × Bool × List DV)) (l : List (Int × Int)) (many : Int) (oa oa1 : AV) (ho1 : OutOK oa1) (tk tk1 : List (Nat × Nat)) (i i1 : Int) (c : Int × Int) (x : X) (s : St) (h1 : decide (i < ((l.length : Nat) : Int)) = true) (h2 : 0 ≤ i ∧ (rowsP l)[i.toNat]? = some (rowC c)) (h3 : containsSpec [ordP fr D, .agg (rowC c)] = some [pbool false]) (hc : Ev C9 noO (.call 52 [lA l, blkF D] (hO D (D + 1) (D + 1) (D + 1) (updC fr D c i) es l many oa tk false)) (.val (vb false) (hO D (D + 1) (D + 1) (D + 1) (updC fr D c i) es l many oa tk false))) (hf : false = false ∧ fitsP (nl fr D) 1 16) (he : Ev C9 noO (.call 48 (args48 (D + 1)) (hO (D + 1) (D + 2) (D + 1) (D + 1) (updO fr D c i (nr fr D c)) es l many oa tk false)) (.val unitA (hO (D + 1) (D + 2) (D + 1) (D + 1) (updO fr D c i (nr fr D c)) es l many oa1 tk1 true))) : Ev C9 noO (.code 48 false (loopOf Try.prog 48 0) { σ := fS l i D, h := (hO D (D + 1) (D + 1) D fr es l many oa tk false) }) (.code .ret { σ := slots 47 [], h := (hO D (D + 1) (D + 1) D fr es l many oa1 tk1 true) }) := by
  revert h1 h2 h3 hc hf he
  match D, hD with
  | 0, _ => intro h1 h2 h3 hc hf he; exact symT_ev (n := 60) (sc := [(site 48 23, Dec.b true), (site 48 24, Dec.row (rowC c)), (site 48 28, Dec.prim [pbool false]), (site 48 32, Dec.call (vb false) (hO 0 (1) (1) (1) (updC fr 0 c i) es l many oa tk false)), (site 48 39, Dec.app false), (site 48 8003, Dec.rng [1, 2, 3, 4, 20, 21, 22, 40] unitA (hO (1) (2) (1) (1) (updO fr 0 c i (nr fr 0 c)) es l many oa1 tk1 true))]) (keep := []) (L := [(site 40 3, 1), (site 40 4, 1), (site 40 5, 1), (site 48 6, 0), (loopSite 48, 0)]) (sc' := []) (by kernel_rfl) (AllP_cons h1 (AllP_cons h2 (AllP_cons h3 (AllP_cons hc (AllP_cons hf (AllP_cons he (AllP_cons (rfl : true = true) (AllP_cons (f5 0 (by omega) fr es l many ho1 tk1 true) (AllP_cons (rfl : true = true) AllP_nil)))))))))
  | 1, _ => intro h1 h2 h3 hc hf he; exact symT_ev (n := 60) (sc := [(site 48 23, Dec.b true), (site 48 24, Dec.row (rowC c)), (site 48 28, Dec.prim [pbool false]), (site 48 32, Dec.call (vb false) (hO 1 (2) (2) (2) (updC fr 1 c i) es l many oa tk false)), (site 48 39, Dec.app false), (site 48 8003, Dec.rng [1, 2, 3, 4, 20, 21, 22, 40] unitA (hO (2) (3) (2) (2) (updO fr 1 c i (nr fr 1 c)) es l many oa1 tk1 true))]) (keep := []) (L := [(site 40 3, 2), (site 40 4, 2), (site 40 5, 2), (site 48 6, 1), (loopSite 48, 1)]) (sc' := []) (by kernel_rfl) (AllP_cons h1 (AllP_cons h2 (AllP_cons h3 (AllP_cons hc (AllP_cons hf (AllP_cons he (AllP_cons (rfl : true = true) (AllP_cons (f5 1 (by omega) fr es l many ho1 tk1 true) (AllP_cons (rfl : true = true) AllP_nil)))))))))
  | 2, _ => intro h1 h2 h3 hc hf he; exact symT_ev (n := 60) (sc := [(site 48 23, Dec.b true), (site 48 24, Dec.row (rowC c)), (site 48 28, Dec.prim [pbool false]), (site 48 32, Dec.call (vb false) (hO 2 (3) (3) (3) (updC fr 2 c i) es l many oa tk false)), (site 48 39, Dec.app false), (site 48 8003, Dec.rng [1, 2, 3, 4, 20, 21, 22, 40] unitA (hO (3) (4) (3) (3) (updO fr 2 c i (nr fr 2 c)) es l many oa1 tk1 true))]) (keep := []) (L := [(site 40 3, 3), (site 40 4, 3), (site 40 5, 3), (site 48 6, 2), (loopSite 48, 2)]) (sc' := []) (by kernel_rfl) (AllP_cons h1 (AllP_cons h2 (AllP_cons h3 (AllP_cons hc (AllP_cons hf (AllP_cons he (AllP_cons (rfl : true = true) (AllP_cons (f5 2 (by omega) fr es l many ho1 tk1 true) (AllP_cons (rfl : true = true) AllP_nil)))))))))
  | 3, _ => intro h1 h2 h3 hc hf he; exact symT_ev (n := 60) (sc := [(site 48 23, Dec.b true), (site 48 24, Dec.row (rowC c)), (site 48 28, Dec.prim [pbool false]), (site 48 32, Dec.call (vb false) (hO 3 (4) (4) (4) (updC fr 3 c i) es l many oa tk false)), (site 48 39, Dec.app false), (site 48 8003, Dec.rng [1, 2, 3, 4, 20, 21, 22, 40] unitA (hO (4) (5) (4) (4) (updO fr 3 c i (nr fr 3 c)) es l many oa1 tk1 true))]) (keep := []) (L := [(site 40 3, 4), (site 40 4, 4), (site 40 5, 4), (site 48 6, 3), (loopSite 48, 3)]) (sc' := []) (by kernel_rfl) (AllP_cons h1 (AllP_cons h2 (AllP_cons h3 (AllP_cons hc (AllP_cons hf (AllP_cons he (AllP_cons (rfl : true = true) (AllP_cons (f5 3 (by omega) fr es l many ho1 tk1 true) (AllP_cons (rfl : true = true) AllP_nil)))))))))
  | 4, _ => intro h1 h2 h3 hc hf he; exact symT_ev (n := 60) (sc := [(site 48 23, Dec.b true), (site 48 24, Dec.row (rowC c)), (site 48 28, Dec.prim [pbool false]), (site 48 32, Dec.call (vb false) (hO 4 (5) (5) (5) (updC fr 4 c i) es l many oa tk false)), (site 48 39, Dec.app false), (site 48 8003, Dec.rng [1, 2, 3, 4, 20, 21, 22, 40] unitA (hO (5) (6) (5) (5) (updO fr 4 c i (nr fr 4 c)) es l many oa1 tk1 true))]) (keep := []) (L := [(site 40 3, 5), (site 40 4, 5), (site 40 5, 5), (site 48 6, 4), (loopSite 48, 4)]) (sc' := []) (by kernel_rfl) (AllP_cons h1 (AllP_cons h2 (AllP_cons h3 (AllP_cons hc (AllP_cons hf (AllP_cons he (AllP_cons (rfl : true = true) (AllP_cons (f5 4 (by omega) fr es l many ho1 tk1 true) (AllP_cons (rfl : true = true) AllP_nil)))))))))
  | 5, _ => intro h1 h2 h3 hc hf he; exact symT_ev (n := 60) (sc := [(site 48 23, Dec.b true), (site 48 24, Dec.row (rowC c)), (site 48 28, Dec.prim [pbool false]), (site 48 32, Dec.call (vb false) (hO 5 (6) (6) (6) (updC fr 5 c i) es l many oa tk false)), (site 48 39, Dec.app false), (site 48 8003, Dec.rng [1, 2, 3, 4, 20, 21, 22, 40] unitA (hO (6) (7) (6) (6) (updO fr 5 c i (nr fr 5 c)) es l many oa1 tk1 true))]) (keep := []) (L := [(site 40 3, 6), (site 40 4, 6), (site 40 5, 6), (site 48 6, 5), (loopSite 48, 5)]) (sc' := []) (by kernel_rfl) (AllP_cons h1 (AllP_cons h2 (AllP_cons h3 (AllP_cons hc (AllP_cons hf (AllP_cons he (AllP_cons (rfl : true = true) (AllP_cons (f5 5 (by omega) fr es l many ho1 tk1 true) (AllP_cons (rfl : true = true) AllP_nil)))))))))
  | 6, _ => intro h1 h2 h3 hc hf he; exact symT_ev (n := 60) (sc := [(site 48 23, Dec.b true), (site 48 24, Dec.row (rowC c)), (site 48 28, Dec.prim [pbool false]), (site 48 32, Dec.call (vb false) (hO 6 (7) (7) (7) (updC fr 6 c i) es l many oa tk false)), (site 48 39, Dec.app false), (site 48 8003, Dec.rng [1, 2, 3, 4, 20, 21, 22, 40] unitA (hO (7) (8) (7) (7) (updO fr 6 c i (nr fr 6 c)) es l many oa1 tk1 true))]) (keep := []) (L := [(site 40 3, 7), (site 40 4, 7), (site 40 5, 7), (site 48 6, 6), (loopSite 48, 6)]) (sc' := []) (by kernel_rfl) (AllP_cons h1 (AllP_cons h2 (AllP_cons h3 (AllP_cons hc (AllP_cons hf (AllP_cons he (AllP_cons (rfl : true = true) (AllP_cons (f5 6 (by omega) fr es l many ho1 tk1 true) (AllP_cons (rfl : true = true) AllP_nil)))))))))
  | n + 7, h => omega
set_option maxRecDepth 20000 in
theorem gr0 (D : Nat) (hD : D < 8) (fr : Nat → Fr) (es : List (Value × Bool × List DV)) (l : List (Int × Int)) (many : Int) (oa : AV) (tk : List (Nat × Nat)) (i : Int) (h1 : decide (i < ((l.length : Nat) : Int)) = false) : Ev C9 noO (.code 66 false (loopOf Try.prog 66 0) { σ := slots 19 [(0, lA l), (1, blkF D), (7, vi ((l.length : Nat) : Int)), (8, vi i)], h := (hO D (D + 1) (D + 1) (D + 1) fr es l many oa tk false) }) (.code (.exit 0) { σ := slots 19 [], h := (hO D (D + 1) (D + 1) (D + 1) fr es l many oa tk false) }) :=
  symM_ev (n := 60) (sc := [(site 66 9, Dec.b false)]) (keep := []) (sc' := []) (by match D, hD with | 0, _ => (show _ = _); kernel_rfl | 1, _ => (show _ = _); kernel_rfl | 2, _ => (show _ = _); kernel_rfl | 3, _ => (show _ = _); kernel_rfl | 4, _ => (show _ = _); kernel_rfl | 5, _ => (show _ = _); kernel_rfl | 6, _ => (show _ = _); kernel_rfl | 7, _ => (show _ = _); kernel_rfl | n + 8, h => omega) (AllP_cons h1 AllP_nil)
set_option maxRecDepth 20000 in
theorem gr1 (D : Nat) (hD : D < 8) (fr : Nat → Fr) (es : List (Value × Bool × List DV)) (l : List (Int × Int)) (many : Int) (oa : AV) (tk : List (Nat × Nat)) (i i1 : Int) (y : Int × Int) (ho : OutOK oa) (x : X) (s : St) (h1 : decide (i < ((l.length : Nat) : Int)) = true) (h2 : 0 ≤ i ∧ (rowsP l)[i.toNat]? = some (rowC y)) (h3 : containsSpec [ordP fr D, .agg (rowC y)] = some [pbool true]) (h4 : wr64 (i + 1) = i1) (h5 : Ev C9 noO (.code 66 false (loopOf Try.prog 66 0) { σ := slots 19 [(0, lA l), (1, blkF D), (7, vi ((l.length : Nat) : Int)), (8, vi i1)], h := (hO D (D + 1) (D + 1) (D + 1) fr es l many oa tk false) }) (.code x s)) : Ev C9 noO (.code 66 false (loopOf Try.prog 66 0) { σ := slots 19 [(0, lA l), (1, blkF D), (7, vi ((l.length : Nat) : Int)), (8, vi i)], h := (hO D (D + 1) (D + 1) (D + 1) fr es l many oa tk false) }) (.code x s) :=
  sym_ev 60 _ [(site 66 9, Dec.b true), (site 66 14, Dec.row (rowC y)), (site 51 8, Dec.prim [pbool true]), (site 66 18, Dec.int i1), (site 66 8002, Dec.trunc [(site 51 4, 0)] [0, 1, 7, 8]), (site 66 8001, Dec.loop [0, 1, 7, 8] x s)] _ [] _ (by match D, hD with | 0, _ => (show _ = _); kernel_rfl | 1, _ => (show _ = _); kernel_rfl | 2, _ => (show _ = _); kernel_rfl | 3, _ => (show _ = _); kernel_rfl | 4, _ => (show _ = _); kernel_rfl | 5, _ => (show _ = _); kernel_rfl | 6, _ => (show _ = _); kernel_rfl | 7, _ => (show _ = _); kernel_rfl | n + 8, h => omega) (AllP_cons h1 (AllP_cons h2 (AllP_cons h3 (AllP_cons h4 (AllP_cons (rfl : true = true) (AllP_cons (f1 D hD fr es l many ho tk false) (AllP_cons (rfl : true = true) (AllP_cons h5 AllP_nil))))))))
set_option maxRecDepth 20000 in
theorem gr2 (D : Nat) (hD : D < 8) (fr : Nat → Fr) (es : List (Value × Bool × List DV)) (l : List (Int × Int)) (many : Int) (oa : AV) (tk : List (Nat × Nat)) (i i1 : Int) (y : Int × Int) (ho : OutOK oa) (x : X) (s : St) (u v : Int × Int) (h1 : decide (i < ((l.length : Nat) : Int)) = true) (h2 : 0 ≤ i ∧ (rowsP l)[i.toNat]? = some (rowC y)) (h3 : containsSpec [ordP fr D, .agg (rowC y)] = some [pbool false]) (h4 : lookupIn C9 59 es (.agg [vi y.1, vi y.2]) false = some (.agg [vi u.1, vi u.2])) (h5 : lookupIn C9 59 es (.agg [vi (fr D).c.1, vi (fr D).c.2]) false = some (.agg [vi v.1, vi v.2])) (h6 : aheadSpec [.agg (rowC u), .agg (rowC v)] = some [pbool false]) (h7 : wr64 (i + 1) = i1) (h8 : Ev C9 noO (.code 66 false (loopOf Try.prog 66 0) { σ := slots 19 [(0, lA l), (1, blkF D), (7, vi ((l.length : Nat) : Int)), (8, vi i1)], h := (hO D (D + 1) (D + 1) (D + 1) fr es l many oa tk false) }) (.code x s)) : Ev C9 noO (.code 66 false (loopOf Try.prog 66 0) { σ := slots 19 [(0, lA l), (1, blkF D), (7, vi ((l.length : Nat) : Int)), (8, vi i)], h := (hO D (D + 1) (D + 1) (D + 1) fr es l many oa tk false) }) (.code x s) :=
  sym_ev 60 _ [(site 66 9, Dec.b true), (site 66 14, Dec.row (rowC y)), (site 51 8, Dec.prim [pbool false]), (site 51 13, Dec.look (.agg [vi u.1, vi u.2])), (site 51 16, Dec.look (.agg [vi v.1, vi v.2])), (site 51 17, Dec.prim [pbool false]), (site 66 18, Dec.int i1), (site 66 8002, Dec.trunc [(site 51 4, 0)] [0, 1, 7, 8]), (site 66 8001, Dec.loop [0, 1, 7, 8] x s)] _ [] _ (by match D, hD with | 0, _ => (show _ = _); kernel_rfl | 1, _ => (show _ = _); kernel_rfl | 2, _ => (show _ = _); kernel_rfl | 3, _ => (show _ = _); kernel_rfl | 4, _ => (show _ = _); kernel_rfl | 5, _ => (show _ = _); kernel_rfl | 6, _ => (show _ = _); kernel_rfl | 7, _ => (show _ = _); kernel_rfl | n + 8, h => omega) (AllP_cons h1 (AllP_cons h2 (AllP_cons h3 (AllP_cons h4 (AllP_cons h5 (AllP_cons h6 (AllP_cons h7 (AllP_cons (rfl : true = true) (AllP_cons (f1 D hD fr es l many ho tk false) (AllP_cons (rfl : true = true) (AllP_cons h8 AllP_nil)))))))))))
set_option maxRecDepth 20000 in
theorem gr3 (D : Nat) (hD : D < 8) (fr : Nat → Fr) (es : List (Value × Bool × List DV)) (l : List (Int × Int)) (many : Int) (oa : AV) (tk : List (Nat × Nat)) (i i1 : Int) (y : Int × Int) (ho : OutOK oa) (u v : Int × Int) (h1 : decide (i < ((l.length : Nat) : Int)) = true) (h2 : 0 ≤ i ∧ (rowsP l)[i.toNat]? = some (rowC y)) (h3 : containsSpec [ordP fr D, .agg (rowC y)] = some [pbool false]) (h4 : lookupIn C9 59 es (.agg [vi y.1, vi y.2]) false = some (.agg [vi u.1, vi u.2])) (h5 : lookupIn C9 59 es (.agg [vi (fr D).c.1, vi (fr D).c.2]) false = some (.agg [vi v.1, vi v.2])) (h6 : aheadSpec [.agg (rowC u), .agg (rowC v)] = some [pbool true]) : Ev C9 noO (.code 66 false (loopOf Try.prog 66 0) { σ := slots 19 [(0, lA l), (1, blkF D), (7, vi ((l.length : Nat) : Int)), (8, vi i)], h := (hO D (D + 1) (D + 1) (D + 1) fr es l many oa tk false) }) (.code .ret { σ := slots 19 [(4, vi i)], h := (hO D (D + 1) (D + 1) (D + 1) fr es l many oa tk false) }) :=
  symT_ev (n := 60) (sc := [(site 66 9, Dec.b true), (site 66 14, Dec.row (rowC y)), (site 51 8, Dec.prim [pbool false]), (site 51 13, Dec.look (.agg [vi u.1, vi u.2])), (site 51 16, Dec.look (.agg [vi v.1, vi v.2])), (site 51 17, Dec.prim [pbool true])]) (keep := [4]) (L := [(site 51 4, 0)]) (sc' := []) (by match D, hD with | 0, _ => (show _ = _); kernel_rfl | 1, _ => (show _ = _); kernel_rfl | 2, _ => (show _ = _); kernel_rfl | 3, _ => (show _ = _); kernel_rfl | 4, _ => (show _ = _); kernel_rfl | 5, _ => (show _ = _); kernel_rfl | 6, _ => (show _ = _); kernel_rfl | 7, _ => (show _ = _); kernel_rfl | n + 8, h => omega) (AllP_cons h1 (AllP_cons h2 (AllP_cons h3 (AllP_cons h4 (AllP_cons h5 (AllP_cons h6 (AllP_cons (rfl : true = true) (AllP_cons (f1 D hD fr es l many ho tk false) (AllP_cons (rfl : true = true) AllP_nil)))))))))
set_option maxRecDepth 20000 in
theorem gcf_n (D : Nat) (hD : D < 8) (fr : Nat → Fr) (es : List (Value × Bool × List DV)) (l : List (Int × Int)) (many : Int) (oa : AV) (tk : List (Nat × Nat)) (h1 : ((rowsP l).length : Int) = ((l.length : Nat) : Int)) (h : Ev C9 noO (.code 66 false (loopOf Try.prog 66 0) { σ := slots 19 [(0, lA l), (1, blkF D), (7, vi ((l.length : Nat) : Int)), (8, vi 0)], h := (hO D (D + 1) (D + 1) (D + 1) fr es l many oa tk false) }) (.code (.exit 0) { σ := slots 19 [], h := (hO D (D + 1) (D + 1) (D + 1) fr es l many oa tk false) })) : Ev C9 noO (.call 52 [lA l, blkF D] (hO D (D + 1) (D + 1) (D + 1) fr es l many oa tk false)) (.val (vb false) (hO D (D + 1) (D + 1) (D + 1) fr es l many oa tk false)) :=
  sym_ev 60 _ [(site 66 7, Dec.int ((l.length : Nat) : Int)), (site 66 8001, Dec.loop [0, 1, 7, 8] (.exit 0) { σ := slots 19 [], h := (hO D (D + 1) (D + 1) (D + 1) fr es l many oa tk false) })] _ [] _ (by match D, hD with | 0, _ => (show _ = _); kernel_rfl | 1, _ => (show _ = _); kernel_rfl | 2, _ => (show _ = _); kernel_rfl | 3, _ => (show _ = _); kernel_rfl | 4, _ => (show _ = _); kernel_rfl | 5, _ => (show _ = _); kernel_rfl | 6, _ => (show _ = _); kernel_rfl | 7, _ => (show _ = _); kernel_rfl | n + 8, h => omega) (AllP_cons h1 (AllP_cons h AllP_nil))
set_option maxRecDepth 20000 in
theorem gcf_y (D : Nat) (hD : D < 8) (fr : Nat → Fr) (es : List (Value × Bool × List DV)) (l : List (Int × Int)) (many : Int) (oa : AV) (tk : List (Nat × Nat)) (i : Int) (h1 : ((rowsP l).length : Int) = ((l.length : Nat) : Int)) (h : Ev C9 noO (.code 66 false (loopOf Try.prog 66 0) { σ := slots 19 [(0, lA l), (1, blkF D), (7, vi ((l.length : Nat) : Int)), (8, vi 0)], h := (hO D (D + 1) (D + 1) (D + 1) fr es l many oa tk false) }) (.code .ret { σ := slots 19 [(4, vi i)], h := (hO D (D + 1) (D + 1) (D + 1) fr es l many oa tk false) })) (h0 : decide (i ≥ 0) = true) : Ev C9 noO (.call 52 [lA l, blkF D] (hO D (D + 1) (D + 1) (D + 1) fr es l many oa tk false)) (.val (vb true) (hO D (D + 1) (D + 1) (D + 1) fr es l many oa tk false)) :=
  sym_ev 60 _ [(site 66 7, Dec.int ((l.length : Nat) : Int)), (site 66 8001, Dec.loop [0, 1, 7, 8] .ret { σ := slots 19 [(4, vi i)], h := (hO D (D + 1) (D + 1) (D + 1) fr es l many oa tk false) }), (site 52 8, Dec.b true)] _ [] _ (by match D, hD with | 0, _ => (show _ = _); kernel_rfl | 1, _ => (show _ = _); kernel_rfl | 2, _ => (show _ = _); kernel_rfl | 3, _ => (show _ = _); kernel_rfl | 4, _ => (show _ = _); kernel_rfl | 5, _ => (show _ = _); kernel_rfl | 6, _ => (show _ = _); kernel_rfl | 7, _ => (show _ = _); kernel_rfl | n + 8, h => omega) (AllP_cons h1 (AllP_cons h (AllP_cons h0 AllP_nil)))
set_option maxRecDepth 20000 in
theorem gpne (D : Nat) (hD : D < 8) (fr : Nat → Fr) (es : List (Value × Bool × List DV)) (l : List (Int × Int)) (many : Int) (oa : AV) (tk : List (Nat × Nat)) (k : Int) (oa1 : AV) (ho1 : OutOK oa1) (tk1 : List (Nat × Nat)) (hf : fitsSpec [.one (.mp es), ordP fr D] = some [pint k]) (h0 : (k == 0) = false) (h21 : ((rowsP l).length : Int) = ((l.length : Nat) : Int)) (hl : Ev C9 noO (.code 48 false (loopOf Try.prog 48 0) { σ := fS l 0 D, h := (hO D (D + 1) (D + 1) D fr es l many oa tk false) }) (.code (.exit 0) { σ := slots 47 [], h := (hO D (D + 1) (D + 1) D fr es l many oa1 tk1 false) })) : Ev C9 noO (.call 48 (args48 D) (hO D (D + 1) D D fr es l many oa tk false)) (.val unitA (hO D (D + 1) D D fr es l many oa1 tk1 false)) :=
  symCT_ev (n := 200) (sc := [(site 48 11, Dec.prim [pint k]), (site 48 12, Dec.b false), (site 48 21, Dec.int ((l.length : Nat) : Int)), (site 48 8001, Dec.loop [1, 2, 3, 4, 20, 21, 22] (.exit 0) { σ := slots 47 [], h := (hO D (D + 1) (D + 1) D fr es l many oa1 tk1 false) })]) (keep := []) (L := [(site 48 4, D)]) (sc' := []) (by match D, hD with | 0, _ => (show _ = _); kernel_rfl | 1, _ => (show _ = _); kernel_rfl | 2, _ => (show _ = _); kernel_rfl | 3, _ => (show _ = _); kernel_rfl | 4, _ => (show _ = _); kernel_rfl | 5, _ => (show _ = _); kernel_rfl | 6, _ => (show _ = _); kernel_rfl | 7, _ => (show _ = _); kernel_rfl | n + 8, h => omega) (AllP_cons hf (AllP_cons h0 (AllP_cons h21 (AllP_cons hl (AllP_cons (rfl : true = true) (AllP_cons (f4 D hD fr es l many ho1 tk1 false) (AllP_cons (rfl : true = true) AllP_nil)))))))
set_option maxRecDepth 20000 in
theorem gpy0e (D : Nat) (hD : D < 8) (fr : Nat → Fr) (es : List (Value × Bool × List DV)) (l : List (Int × Int)) (many : Int) (oa1 : AV) (ho1 : OutOK oa1) (tk1 : List (Nat × Nat)) (hf : fitsSpec [.one (.mp es), ordP fr D] = some [pint 0]) (hcl : cloneSpec [ordP fr D] = some [ordP fr D]) (h52 : ((0 : Int) == many) = false) (h21 : ((rowsP l).length : Int) = ((l.length : Nat) : Int)) (hl : Ev C9 noO (.code 48 false (loopOf Try.prog 48 0) { σ := fS l 0 D, h := (hO D (D + 1) (D + 1) D fr es l many (.st 1 [[ordD fr D]] (site 24 56) 1) [(site 24 56, 1)] false) }) (.code (.exit 0) { σ := slots 47 [], h := (hO D (D + 1) (D + 1) D fr es l many oa1 tk1 false) })) : Ev C9 noO (.call 48 (args48 D) (hO D (D + 1) D D fr es l many (.d (.v (.slice none 0 0))) [] false)) (.val unitA (hO D (D + 1) D D fr es l many oa1 tk1 false)) :=
  symCT_ev (n := 200) (sc := [(site 48 11, Dec.prim [pint 0]), (site 48 16, Dec.prim [ordP fr D]), (site 24 52, Dec.b false), (site 48 21, Dec.int ((l.length : Nat) : Int)), (site 48 8001, Dec.loop [1, 2, 3, 4, 20, 21, 22] (.exit 0) { σ := slots 47 [], h := (hO D (D + 1) (D + 1) D fr es l many oa1 tk1 false) })]) (keep := []) (L := [(site 48 4, D)]) (sc' := []) (by match D, hD with | 0, _ => (show _ = _); kernel_rfl | 1, _ => (show _ = _); kernel_rfl | 2, _ => (show _ = _); kernel_rfl | 3, _ => (show _ = _); kernel_rfl | 4, _ => (show _ = _); kernel_rfl | 5, _ => (show _ = _); kernel_rfl | 6, _ => (show _ = _); kernel_rfl | 7, _ => (show _ = _); kernel_rfl | n + 8, h => omega) (AllP_cons hf (AllP_cons hcl (AllP_cons h52 (AllP_cons h21 (AllP_cons hl (AllP_cons (rfl : true = true) (AllP_cons (f4 D hD fr es l many ho1 tk1 false) (AllP_cons (rfl : true = true) AllP_nil))))))))
set_option maxRecDepth 20000 in
theorem gpy1e (D : Nat) (hD : D < 8) (fr : Nat → Fr) (es : List (Value × Bool × List DV)) (l : List (Int × Int)) (many : Int) (rows : List (List DV)) (g : Nat) (n : Int) (oa1 : AV) (ho1 : OutOK oa1) (tk1 : List (Nat × Nat)) (hf : fitsSpec [.one (.mp es), ordP fr D] = some [pint 0]) (hcl : cloneSpec [ordP fr D] = some [ordP fr D]) (hn : (rows.length : Int) = n) (h52 : (n == many) = false) (hfp : false = false ∧ g = g ∧ fitsP rows.length 1 24) (h21 : ((rowsP l).length : Int) = ((l.length : Nat) : Int)) (hl : Ev C9 noO (.code 48 false (loopOf Try.prog 48 0) { σ := fS l 0 D, h := (hO D (D + 1) (D + 1) D fr es l many (.st 1 (rows ++ [[ordD fr D]]) (site 24 56) (g + 1 + 1)) [(site 24 56, g + 1 + 1)] false) }) (.code (.exit 0) { σ := slots 47 [], h := (hO D (D + 1) (D + 1) D fr es l many oa1 tk1 false) })) : Ev C9 noO (.call 48 (args48 D) (hO D (D + 1) D D fr es l many (.st 1 rows (site 24 56) g) [(site 24 56, g)] false)) (.val unitA (hO D (D + 1) D D fr es l many oa1 tk1 false)) :=
  symCT_ev (n := 200) (sc := [(site 48 11, Dec.prim [pint 0]), (site 48 16, Dec.prim [ordP fr D]), (site 24 50, Dec.int n), (site 24 52, Dec.b false), (site 24 56, Dec.app false), (site 48 21, Dec.int ((l.length : Nat) : Int)), (site 48 8001, Dec.loop [1, 2, 3, 4, 20, 21, 22] (.exit 0) { σ := slots 47 [], h := (hO D (D + 1) (D + 1) D fr es l many oa1 tk1 false) })]) (keep := []) (L := [(site 48 4, D)]) (sc' := []) (by match D, hD with | 0, _ => (show _ = _); kernel_rfl | 1, _ => (show _ = _); kernel_rfl | 2, _ => (show _ = _); kernel_rfl | 3, _ => (show _ = _); kernel_rfl | 4, _ => (show _ = _); kernel_rfl | 5, _ => (show _ = _); kernel_rfl | 6, _ => (show _ = _); kernel_rfl | 7, _ => (show _ = _); kernel_rfl | n + 8, h => omega) (AllP_cons hf (AllP_cons hcl (AllP_cons hn (AllP_cons h52 (AllP_cons hfp (AllP_cons h21 (AllP_cons hl (AllP_cons (rfl : true = true) (AllP_cons (f4 D hD fr es l many ho1 tk1 false) (AllP_cons (rfl : true = true) AllP_nil))))))))))
set_option maxRecDepth 20000 in
theorem gpnr (D : Nat) (hD : D < 8) (fr : Nat → Fr) (es : List (Value × Bool × List DV)) (l : List (Int × Int)) (many : Int) (oa : AV) (tk : List (Nat × Nat)) (k : Int) (oa1 : AV) (ho1 : OutOK oa1) (tk1 : List (Nat × Nat)) (hf : fitsSpec [.one (.mp es), ordP fr D] = some [pint k]) (h0 : (k == 0) = false) (h21 : ((rowsP l).length : Int) = ((l.length : Nat) : Int)) (hl : Ev C9 noO (.code 48 false (loopOf Try.prog 48 0) { σ := fS l 0 D, h := (hO D (D + 1) (D + 1) D fr es l many oa tk false) }) (.code .ret { σ := slots 47 [], h := (hO D (D + 1) (D + 1) D fr es l many oa1 tk1 true) })) : Ev C9 noO (.call 48 (args48 D) (hO D (D + 1) D D fr es l many oa tk false)) (.val unitA (hO D (D + 1) D D fr es l many oa1 tk1 true)) :=
  symCT_ev (n := 200) (sc := [(site 48 11, Dec.prim [pint k]), (site 48 12, Dec.b false), (site 48 21, Dec.int ((l.length : Nat) : Int)), (site 48 8001, Dec.loop [1, 2, 3, 4, 20, 21, 22] .ret { σ := slots 47 [], h := (hO D (D + 1) (D + 1) D fr es l many oa1 tk1 true) })]) (keep := []) (L := [(site 48 4, D)]) (sc' := []) (by match D, hD with | 0, _ => (show _ = _); kernel_rfl | 1, _ => (show _ = _); kernel_rfl | 2, _ => (show _ = _); kernel_rfl | 3, _ => (show _ = _); kernel_rfl | 4, _ => (show _ = _); kernel_rfl | 5, _ => (show _ = _); kernel_rfl | 6, _ => (show _ = _); kernel_rfl | 7, _ => (show _ = _); kernel_rfl | n + 8, h => omega) (AllP_cons hf (AllP_cons h0 (AllP_cons h21 (AllP_cons hl (AllP_cons (rfl : true = true) (AllP_cons (f4 D hD fr es l many ho1 tk1 true) (AllP_cons (rfl : true = true) AllP_nil)))))))
set_option maxRecDepth 20000 in
theorem gpy0r (D : Nat) (hD : D < 8) (fr : Nat → Fr) (es : List (Value × Bool × List DV)) (l : List (Int × Int)) (many : Int) (oa1 : AV) (ho1 : OutOK oa1) (tk1 : List (Nat × Nat)) (hf : fitsSpec [.one (.mp es), ordP fr D] = some [pint 0]) (hcl : cloneSpec [ordP fr D] = some [ordP fr D]) (h52 : ((0 : Int) == many) = false) (h21 : ((rowsP l).length : Int) = ((l.length : Nat) : Int)) (hl : Ev C9 noO (.code 48 false (loopOf Try.prog 48 0) { σ := fS l 0 D, h := (hO D (D + 1) (D + 1) D fr es l many (.st 1 [[ordD fr D]] (site 24 56) 1) [(site 24 56, 1)] false) }) (.code .ret { σ := slots 47 [], h := (hO D (D + 1) (D + 1) D fr es l many oa1 tk1 true) })) : Ev C9 noO (.call 48 (args48 D) (hO D (D + 1) D D fr es l many (.d (.v (.slice none 0 0))) [] false)) (.val unitA (hO D (D + 1) D D fr es l many oa1 tk1 true)) :=
  symCT_ev (n := 200) (sc := [(site 48 11, Dec.prim [pint 0]), (site 48 16, Dec.prim [ordP fr D]), (site 24 52, Dec.b false), (site 48 21, Dec.int ((l.length : Nat) : Int)), (site 48 8001, Dec.loop [1, 2, 3, 4, 20, 21, 22] .ret { σ := slots 47 [], h := (hO D (D + 1) (D + 1) D fr es l many oa1 tk1 true) })]) (keep := []) (L := [(site 48 4, D)]) (sc' := []) (by match D, hD with | 0, _ => (show _ = _); kernel_rfl | 1, _ => (show _ = _); kernel_rfl | 2, _ => (show _ = _); kernel_rfl | 3, _ => (show _ = _); kernel_rfl | 4, _ => (show _ = _); kernel_rfl | 5, _ => (show _ = _); kernel_rfl | 6, _ => (show _ = _); kernel_rfl | 7, _ => (show _ = _); kernel_rfl | n + 8, h => omega) (AllP_cons hf (AllP_cons hcl (AllP_cons h52 (AllP_cons h21 (AllP_cons hl (AllP_cons (rfl : true = true) (AllP_cons (f4 D hD fr es l many ho1 tk1 true) (AllP_cons (rfl : true = true) AllP_nil))))))))
set_option maxRecDepth 20000 in
theorem gpy1r (D : Nat) (hD : D < 8) (fr : Nat → Fr) (es : List (Value × Bool × List DV)) (l : List (Int × Int)) (many : Int) (rows : List (List DV)) (g : Nat) (n : Int) (oa1 : AV) (ho1 : OutOK oa1) (tk1 : List (Nat × Nat)) (hf : fitsSpec [.one (.mp es), ordP fr D] = some [pint 0]) (hcl : cloneSpec [ordP fr D] = some [ordP fr D]) (hn : (rows.length : Int) = n) (h52 : (n == many) = false) (hfp : false = false ∧ g = g ∧ fitsP rows.length 1 24) (h21 : ((rowsP l).length : Int) = ((l.length : Nat) : Int)) (hl : Ev C9 noO (.code 48 false (loopOf Try.prog 48 0) { σ := fS l 0 D, h := (hO D (D + 1) (D + 1) D fr es l many (.st 1 (rows ++ [[ordD fr D]]) (site 24 56) (g + 1 + 1)) [(site 24 56, g + 1 + 1)] false) }) (.code .ret { σ := slots 47 [], h := (hO D (D + 1) (D + 1) D fr es l many oa1 tk1 true) })) : Ev C9 noO (.call 48 (args48 D) (hO D (D + 1) D D fr es l many (.st 1 rows (site 24 56) g) [(site 24 56, g)] false)) (.val unitA (hO D (D + 1) D D fr es l many oa1 tk1 true)) :=
  symCT_ev (n := 200) (sc := [(site 48 11, Dec.prim [pint 0]), (site 48 16, Dec.prim [ordP fr D]), (site 24 50, Dec.int n), (site 24 52, Dec.b false), (site 24 56, Dec.app false), (site 48 21, Dec.int ((l.length : Nat) : Int)), (site 48 8001, Dec.loop [1, 2, 3, 4, 20, 21, 22] .ret { σ := slots 47 [], h := (hO D (D + 1) (D + 1) D fr es l many oa1 tk1 true) })]) (keep := []) (L := [(site 48 4, D)]) (sc' := []) (by match D, hD with | 0, _ => (show _ = _); kernel_rfl | 1, _ => (show _ = _); kernel_rfl | 2, _ => (show _ = _); kernel_rfl | 3, _ => (show _ = _); kernel_rfl | 4, _ => (show _ = _); kernel_rfl | 5, _ => (show _ = _); kernel_rfl | 6, _ => (show _ = _); kernel_rfl | 7, _ => (show _ = _); kernel_rfl | n + 8, h => omega) (AllP_cons hf (AllP_cons hcl (AllP_cons hn (AllP_cons h52 (AllP_cons hfp (AllP_cons h21 (AllP_cons hl (AllP_cons (rfl : true = true) (AllP_cons (f4 D hD fr es l many ho1 tk1 true) (AllP_cons (rfl : true = true) AllP_nil))))))))))
set_option maxRecDepth 20000 in
theorem gpb0 (D : Nat) (hD : D < 8) (fr : Nat → Fr) (es : List (Value × Bool × List DV)) (l : List (Int × Int)) (many : Int) (hf : fitsSpec [.one (.mp es), ordP fr D] = some [pint 0]) (hcl : cloneSpec [ordP fr D] = some [ordP fr D]) (h52 : ((0 : Int) == many) = true) : Ev C9 noO (.call 48 (args48 D) (hO D (D + 1) D D fr es l many (.d (.v (.slice none 0 0))) [] false)) (.val unitA (hO D (D + 1) D D fr es l many (.d (.v (.slice none 0 0))) [] true)) :=
  symCT_ev (n := 200) (sc := [(site 48 11, Dec.prim [pint 0]), (site 48 16, Dec.prim [ordP fr D]), (site 24 52, Dec.b true)]) (keep := []) (L := [(site 48 4, D)]) (sc' := []) (by match D, hD with | 0, _ => (show _ = _); kernel_rfl | 1, _ => (show _ = _); kernel_rfl | 2, _ => (show _ = _); kernel_rfl | 3, _ => (show _ = _); kernel_rfl | 4, _ => (show _ = _); kernel_rfl | 5, _ => (show _ = _); kernel_rfl | 6, _ => (show _ = _); kernel_rfl | 7, _ => (show _ = _); kernel_rfl | n + 8, h => omega) (AllP_cons hf (AllP_cons hcl (AllP_cons h52 (AllP_cons (rfl : true = true) (AllP_cons (f4 D hD fr es l many (oa := .d (.v (.slice none 0 0))) (.inl rfl) [] true) (AllP_cons (rfl : true = true) AllP_nil))))))
set_option maxRecDepth 20000 in
theorem gpb1 (D : Nat) (hD : D < 8) (fr : Nat → Fr) (es : List (Value × Bool × List DV)) (l : List (Int × Int)) (many : Int) (rows : List (List DV)) (g : Nat) (n : Int) (hf : fitsSpec [.one (.mp es), ordP fr D] = some [pint 0]) (hcl : cloneSpec [ordP fr D] = some [ordP fr D]) (hn : (rows.length : Int) = n) (h52 : (n == many) = true) : Ev C9 noO (.call 48 (args48 D) (hO D (D + 1) D D fr es l many (.st 1 rows (site 24 56) g) [(site 24 56, g)] false)) (.val unitA (hO D (D + 1) D D fr es l many (.st 1 rows (site 24 56) g) [(site 24 56, g)] true)) :=
  symCT_ev (n := 200) (sc := [(site 48 11, Dec.prim [pint 0]), (site 48 16, Dec.prim [ordP fr D]), (site 24 50, Dec.int n), (site 24 52, Dec.b true)]) (keep := []) (L := [(site 48 4, D)]) (sc' := []) (by match D, hD with | 0, _ => (show _ = _); kernel_rfl | 1, _ => (show _ = _); kernel_rfl | 2, _ => (show _ = _); kernel_rfl | 3, _ => (show _ = _); kernel_rfl | 4, _ => (show _ = _); kernel_rfl | 5, _ => (show _ = _); kernel_rfl | 6, _ => (show _ = _); kernel_rfl | 7, _ => (show _ = _); kernel_rfl | n + 8, h => omega) (AllP_cons hf (AllP_cons hcl (AllP_cons hn (AllP_cons h52 (AllP_cons (rfl : true = true) (AllP_cons (f4 D hD fr es l many (oa := .st 1 rows (site 24 56) g) (.inr ⟨_, _, rfl⟩) [(site 24 56, g)] true) (AllP_cons (rfl : true = true) AllP_nil)))))))

end Go.Ev

namespace Go.Ev
open Go Go.RowKit Go.Proofs

/-! ### what is told -/
def blockedB (m : MapE) (l o : List (Int × Int)) (c : Int × Int) : Bool := l.any fun y => !o.contains y && aheadI ((getKV y m).getD (0, 0)) ((getKV c m).getD (0, 0))
def selfL (m : MapE) (o : List (Int × Int)) : List (List (Int × Int)) := if fitsI m o = 0 then [o] else []
def tryC (m : MapE) (l : List (Int × Int)) (f : List (Int × Int) → List (List (Int × Int))) (o : List (Int × Int)) (c : Int × Int) : List (List (Int × Int)) :=
  if o.contains c then [] else if blockedB m l o c then [] else f (o ++ [c])
def everyL (m : MapE) (l : List (Int × Int)) : Nat → List (Int × Int) → List (List (Int × Int))
  | 0, o => selfL m o
  | n + 1, o => selfL m o ++ l.flatMap (tryC m l (everyL m l n) o)
/-- told behind others, at most so many -/
def told (many : Nat) (O E : List (List (Int × Int))) : List (List (Int × Int)) × Bool := ((O ++ E).take many, decide (many < O.length + E.length))
theorem told_brk {many : Nat} {O A : List (List (Int × Int))} (B : List (List (Int × Int))) (h : (told many O A).2 = true) : told many O (A ++ B) = told many O A := by
  simp only [told, decide_eq_true_eq] at h
  unfold told
  have e1 : (O ++ (A ++ B)).take many = (O ++ A).take many := by
    rw [← List.append_assoc, List.take_append_of_le_length (by simp; omega)]
  rw [e1]
  congr 1
  rw [decide_eq_true (by simp; omega), decide_eq_true h]
theorem told_go {many : Nat} {O A : List (List (Int × Int))} (B : List (List (Int × Int))) (h : (told many O A).2 = false) : (told many O A).1 = O ++ A ∧ (O ++ A).length ≤ many ∧ told many O (A ++ B) = told many (O ++ A) B := by
  simp only [told, decide_eq_false_iff_not] at h
  refine ⟨List.take_of_length_le (by simp; omega), by simp; omega, ?_⟩
  simp only [told, List.append_assoc, List.length_append, Nat.add_assoc]
theorem told_nil {many : Nat} {O : List (List (Int × Int))} (h : O.length ≤ many) : told many O [] = (O, false) := by
  simp only [told, List.append_nil, List.length_nil, Nat.add_zero]
  rw [List.take_of_length_le h, decide_eq_false (by omega)]
theorem told_len (many : Nat) (O E : List (List (Int × Int))) : (told many O E).1.length ≤ many := by simp [told]; omega

/-! ### in the heap -/
def dvO : List (Int × Int) → DV
  | [] => .v (.slice none 0 0)
  | c :: r => .sl 2 false (rowsP (c :: r))
def rowsO (O : List (List (Int × Int))) : List (List DV) := O.map fun o => [dvO o]
def OutRel (O : List (List (Int × Int))) (oa : AV) (tk : List (Nat × Nat)) : Prop :=
  (O = [] ∧ oa = .d (.v (.slice none 0 0)) ∧ tk = []) ∨ (O ≠ [] ∧ ∃ g, oa = .st 1 (rowsO O) (site 24 56) g ∧ tk = [(site 24 56, g)])
theorem OutRel.ok {O : List (List (Int × Int))} {oa : AV} {tk : List (Nat × Nat)} (h : OutRel O oa tk) : OutOK oa := by
  rcases h with ⟨_, h, _⟩ | ⟨_, g, h, _⟩
  · exact .inl h
  · exact .inr ⟨_, g, h⟩
def OrdIs (fr : Nat → Fr) (D : Nat) (o : List (Int × Int)) : Prop := o.length = D ∧ (0 < D → (fr D).r = rowsP o)
theorem rowC_pair (c : Int × Int) : pairOf (.agg (rowC c)) = some c := rfl
theorem OrdIs.calls {fr : Nat → Fr} {D : Nat} {o : List (Int × Int)} (h : OrdIs fr D o) : callsOf (ordP fr D) = some o := by
  obtain ⟨h1, h2⟩ := h
  cases D with
  | zero => obtain rfl : o = [] := List.eq_nil_of_length_eq_zero h1; rfl
  | succ D =>
    have h3 := h2 (by omega)
    show callsOf (.one (.sl 2 false (fr (D + 1)).r)) = some o
    rw [h3]; exact callsOf_sl false o
theorem OrdIs.contains {fr : Nat → Fr} {D : Nat} {o : List (Int × Int)} (h : OrdIs fr D o) (hD : D < 8) (c : Int × Int) : containsSpec [ordP fr D, .agg (rowC c)] = some [pbool (o.contains c)] := by
  obtain ⟨h1, h2⟩ := h
  cases D with
  | zero => obtain rfl : o = [] := List.eq_nil_of_length_eq_zero h1; rfl
  | succ D =>
    have h3 := h2 (by omega)
    show containsSpec [.one (.sl 2 false (fr (D + 1)).r), .agg (rowC c)] = _
    have e1 : allSome rowI (rowsP o) = some o := by unfold rowsP; exact allSome_map rowI_P o
    rw [h3]
    simp only [containsSpec, rowC_pair, e1]
    rw [if_pos (by omega)]
theorem OrdIs.fits {fr : Nat → Fr} {D : Nat} {o : List (Int × Int)} (h : OrdIs fr D o) (hD : D < 8) (m : MapE) : fitsSpec [.one (.mp (m.map entA)), ordP fr D] = some [pint (fitsI m o)] :=
  fits_at m h.calls (by have := h.1; omega)
theorem OrdIs.cl {fr : Nat → Fr} {D : Nat} {o : List (Int × Int)} (h : OrdIs fr D o) (hD : D < 8) : cloneSpec [ordP fr D] = some [ordP fr D] := by
  obtain ⟨h1, h2⟩ := h
  cases D with
  | zero => exact rfl
  | succ D =>
    have h3 := h2 (by omega)
    show cloneSpec [.one (.sl 2 false (fr (D + 1)).r)] = some [.one (.sl 2 false (fr (D + 1)).r)]
    rw [h3]
    have hne : (rowsP o).isEmpty = false := by
      cases o with
      | nil => simp at h1
      | cons a r => rfl
    have hl : (rowsP o).length < 2 ^ 40 := by simp [rowsP]; omega
    simp only [cloneSpec, hl, if_true, hne]
theorem OrdIs.dv {fr : Nat → Fr} {D : Nat} {o : List (Int × Int)} (h : OrdIs fr D o) : ordD fr D = dvO o := by
  obtain ⟨h1, h2⟩ := h
  cases D with
  | zero => obtain rfl : o = [] := List.eq_nil_of_length_eq_zero h1; rfl
  | succ D =>
    have h3 := h2 (by omega)
    show DV.sl 2 false (fr (D + 1)).r = dvO o
    rw [h3]
    cases o with
    | nil => simp at h1
    | cons a r => rfl
theorem OrdIs.nr {fr : Nat → Fr} {D : Nat} {o : List (Int × Int)} (h : OrdIs fr D o) (c : Int × Int) : nr fr D c = rowsP (o ++ [c]) := by
  obtain ⟨h1, h2⟩ := h
  cases D with
  | zero => obtain rfl : o = [] := List.eq_nil_of_length_eq_zero h1; rfl
  | succ D =>
    have h3 := h2 (by omega)
    show (fr (D + 1)).r ++ [rowC c] = rowsP (o ++ [c])
    rw [h3]; simp [rowsP, rowC, di]
theorem OrdIs.nl {fr : Nat → Fr} {D : Nat} {o : List (Int × Int)} (h : OrdIs fr D o) : nl fr D = o.length := by
  obtain ⟨h1, h2⟩ := h
  cases D with
  | zero => obtain rfl : o = [] := List.eq_nil_of_length_eq_zero h1; rfl
  | succ D =>
    have h3 := h2 (by omega)
    show (fr (D + 1)).r.length = o.length
    rw [h3]; simp [rowsP]
theorem OrdIs.next {fr : Nat → Fr} {D : Nat} {o : List (Int × Int)} (h : OrdIs fr D o) (c : Int × Int) (i : Int) : OrdIs (updO fr D c i (Ev.nr fr D c)) (D + 1) (o ++ [c]) :=
  ⟨by simp [h.1], fun _ => by simp [updO, h.nr c]⟩
theorem OrdIs.upd {fr : Nat → Fr} {D : Nat} {o : List (Int × Int)} (h : OrdIs fr D o) (c : Int × Int) (i : Int) : OrdIs (updC fr D c i) D o :=
  ⟨h.1, fun hD => by simp [updC, h.2 hD]⟩

def xOf (b : Bool) : X := if b then .ret else .exit 0
/-- an iterator tells its own order first -/
theorem ev48_self {m : MapE} {l : List (Int × Int)} {many : Nat} (hmany : many ≤ 1000) {D : Nat} (hD : D < 8) {fr : Nat → Fr} {o : List (Int × Int)} (hO : OrdIs fr D o) {R : List (List (Int × Int))}
    (hLP : ∀ (O : List (List (Int × Int))) (oa : AV) (tk : List (Nat × Nat)), OutRel O oa tk → O.length ≤ many → ∃ oa' tk', OutRel (told many O R).1 oa' tk' ∧
      Ev C9 noO (.code 48 false (loopOf Try.prog 48 0) { σ := fS l 0 D, h := Ev.hO D (D + 1) (D + 1) D fr (m.map entA) l many oa tk false })
        (.code (xOf (told many O R).2) { σ := slots 47 [], h := Ev.hO D (D + 1) (D + 1) D fr (m.map entA) l many oa' tk' (told many O R).2 }))
    (O : List (List (Int × Int))) (oa : AV) (tk : List (Nat × Nat)) (hr : OutRel O oa tk) (hlen : O.length ≤ many) :
    ∃ oa' tk', OutRel (told many O (selfL m o ++ R)).1 oa' tk' ∧
      Ev C9 noO (.call 48 (args48 D) (Ev.hO D (D + 1) D D fr (m.map entA) l many oa tk false)) (.val unitA (Ev.hO D (D + 1) D D fr (m.map entA) l many oa' tk' (told many O (selfL m o ++ R)).2)) := by
  have hfit := hO.fits hD m
  have h21 : (((rowsP l).length : Nat) : Int) = ((l.length : Nat) : Int) := by simp [rowsP]
  by_cases hf : fitsI m o = 0
  · have es : selfL m o = [o] := by unfold selfL; rw [if_pos hf]
    rw [es]
    rw [hf] at hfit
    have hcl := hO.cl hD
    by_cases hfull : O.length = many
    · -- enough have been told
      have hbr : (told many O [o]).2 = true := by simp [told]; omega
      rw [told_brk R hbr]
      have e1 : told many O [o] = (O, true) := by
        simp only [told]
        rw [List.take_append_of_le_length (by omega), List.take_of_length_le (by omega), decide_eq_true (by simp; omega)]
      rw [e1]
      rcases hr with ⟨rfl, rfl, rfl⟩ | ⟨hne, g, rfl, rfl⟩
      · exact ⟨_, _, .inl ⟨rfl, rfl, rfl⟩, gpb0 D hD fr _ l many hfit hcl (by simp at hfull; subst hfull; rfl)⟩
      · exact ⟨_, _, .inr ⟨hne, g, rfl, rfl⟩, gpb1 D hD fr _ l many (rowsO O) g _ hfit hcl rfl (by simp [rowsO]; omega)⟩
    · have hbr : (told many O [o]).2 = false := by simp [told]; omega
      obtain ⟨g1, g2, g3⟩ := told_go R hbr
      rw [g3]
      have hd := hO.dv
      rcases hr with ⟨rfl, rfl, rfl⟩ | ⟨hne, g, rfl, rfl⟩
      · have hz : ((0 : Int) == (many : Nat)) = false := by simp at hfull; simp; omega
        obtain ⟨oa', tk', h1, h2⟩ := hLP [o] (.st 1 [[ordD fr D]] (site 24 56) 1) [(site 24 56, 1)] (.inr ⟨by simp, 1, by rw [hd]; rfl, rfl⟩) (by simpa using g2)
        refine ⟨oa', tk', h1, ?_⟩
        show Ev C9 noO _ (.val unitA (Ev.hO D (D + 1) D D fr (m.map entA) l many oa' tk' (told many [o] R).2))
        cases hb : (told many [o] R).2 with
        | true => rw [hb] at h2; exact gpy0r D hD fr _ l many oa' h1.ok tk' hfit hcl hz h21 h2
        | false => rw [hb] at h2; exact gpy0e D hD fr _ l many oa' h1.ok tk' hfit hcl hz h21 h2
      · have hz : (((rowsO O).length : Nat) : Int) = ((O.length : Nat) : Int) := by simp [rowsO]
        have hz2 : (((O.length : Nat) : Int) == (many : Nat)) = false := by simp; omega
        have hfp : false = false ∧ g = g ∧ fitsP (rowsO O).length 1 24 := ⟨rfl, rfl, by unfold fitsP; simp [rowsO]; omega⟩
        obtain ⟨oa', tk', h1, h2⟩ := hLP (O ++ [o]) (.st 1 (rowsO O ++ [[ordD fr D]]) (site 24 56) (g + 1 + 1)) [(site 24 56, g + 1 + 1)] (.inr ⟨by simp, g + 1 + 1, by rw [hd]; simp [rowsO], rfl⟩) g2
        refine ⟨oa', tk', h1, ?_⟩
        cases hb : (told many (O ++ [o]) R).2 with
        | true => rw [hb] at h2; exact gpy1r D hD fr _ l many (rowsO O) g _ oa' h1.ok tk' hfit hcl hz hz2 hfp h21 h2
        | false => rw [hb] at h2; exact gpy1e D hD fr _ l many (rowsO O) g _ oa' h1.ok tk' hfit hcl hz hz2 hfp h21 h2
  · have es : selfL m o = [] := by unfold selfL; rw [if_neg hf]
    rw [es, List.nil_append]
    obtain ⟨oa', tk', h1, h2⟩ := hLP O oa tk hr hlen
    refine ⟨oa', tk', h1, ?_⟩
    have h0 : (fitsI m o == 0) = false := by simpa using hf
    cases hb : (told many O R).2 with
    | true => rw [hb] at h2; exact gpnr D hD fr _ l many oa tk _ oa' h1.ok tk' hfit h0 h21 h2
    | false => rw [hb] at h2; exact gpne D hD fr _ l many oa tk _ oa' h1.ok tk' hfit h0 h21 h2

section
variable {m : MapE} {l : List (Int × Int)} (hl7 : l.length ≤ 7) {many : Nat}
include hl7
theorem ix66 {D : Nat} (hD : D < 8) {fr : Nat → Fr} {o : List (Int × Int)} (hO : OrdIs fr D o) {oa : AV} (ho : OutOK oa) (tk : List (Nat × Nat)) (mn : Int) : ∀ rest pre : List (Int × Int), pre ++ rest = l →
    (rest.any (fun y => !o.contains y && aheadI ((getKV y m).getD (0, 0)) ((getKV (fr D).c m).getD (0, 0))) = false ∧
      Ev C9 noO (.code 66 false (loopOf Try.prog 66 0) { σ := slots 19 [(0, lA l), (1, blkF D), (7, vi ((l.length : Nat) : Int)), (8, vi (pre.length : Nat))], h := Ev.hO D (D + 1) (D + 1) (D + 1) fr (m.map entA) l mn oa tk false })
        (.code (.exit 0) { σ := slots 19 [], h := Ev.hO D (D + 1) (D + 1) (D + 1) fr (m.map entA) l mn oa tk false })) ∨
    (rest.any (fun y => !o.contains y && aheadI ((getKV y m).getD (0, 0)) ((getKV (fr D).c m).getD (0, 0))) = true ∧ ∃ i : Nat,
      Ev C9 noO (.code 66 false (loopOf Try.prog 66 0) { σ := slots 19 [(0, lA l), (1, blkF D), (7, vi ((l.length : Nat) : Int)), (8, vi (pre.length : Nat))], h := Ev.hO D (D + 1) (D + 1) (D + 1) fr (m.map entA) l mn oa tk false })
        (.code .ret { σ := slots 19 [(4, vi (i : Nat))], h := Ev.hO D (D + 1) (D + 1) (D + 1) fr (m.map entA) l mn oa tk false }))
  | [], pre, h => .inl ⟨rfl, gr0 D hD fr _ l mn oa tk _ (dge (by subst h; simp))⟩
  | y :: rest, pre, h => by
    have hlt := pre_lt h
    have hrow := row_at (g := rowC) h
    have ih := ix66 hD hO ho tk mn rest (pre ++ [y]) (pre_snoc h)
    simp only [len_snoc] at ih
    have hc := hO.contains hD y
    have h4 := look59 (C := C9) rfl y m
    have h5 := look59 (C := C9) rfl (fr D).c m
    have hw : wr64 ((pre.length : Nat) + 1) = ((pre.length + 1 : Nat) : Int) := wrap_succ (by omega)
    rw [List.any_cons]
    cases hoc : o.contains y with
    | true =>
      rw [hoc] at hc
      simp only [Bool.not_true, Bool.false_and, Bool.false_or]
      rcases ih with ⟨h1, h2⟩ | ⟨h1, i, h2⟩
      · exact .inl ⟨h1, gr1 D hD fr _ l mn oa tk _ _ y ho _ _ (dlt hlt) hrow hc hw h2⟩
      · exact .inr ⟨h1, i, gr1 D hD fr _ l mn oa tk _ _ y ho _ _ (dlt hlt) hrow hc hw h2⟩
    | false =>
      rw [hoc] at hc
      simp only [Bool.not_false, Bool.true_and]
      have ha := ahead_at ((getKV y m).getD (0, 0)) ((getKV (fr D).c m).getD (0, 0))
      cases hah : aheadI ((getKV y m).getD (0, 0)) ((getKV (fr D).c m).getD (0, 0)) with
      | true =>
        rw [hah] at ha
        exact .inr ⟨rfl, pre.length, gr3 D hD fr _ l mn oa tk _ 0 y ho _ _ (dlt hlt) hrow hc h4 h5 ha⟩
      | false =>
        rw [hah] at ha
        simp only [Bool.false_or]
        rcases ih with ⟨h1, h2⟩ | ⟨h1, i, h2⟩
        · exact .inl ⟨h1, gr2 D hD fr _ l mn oa tk _ _ y ho _ _ _ _ (dlt hlt) hrow hc h4 h5 ha hw h2⟩
        · exact .inr ⟨h1, i, gr2 D hD fr _ l mn oa tk _ _ y ho _ _ _ _ (dlt hlt) hrow hc h4 h5 ha hw h2⟩
theorem cf_at {D : Nat} (hD : D < 8) {fr : Nat → Fr} {o : List (Int × Int)} (hO : OrdIs fr D o) {oa : AV} (ho : OutOK oa) (tk : List (Nat × Nat)) (mn : Int) :
    Ev C9 noO (.call 52 [lA l, blkF D] (Ev.hO D (D + 1) (D + 1) (D + 1) fr (m.map entA) l mn oa tk false)) (.val (vb (blockedB m l o (fr D).c)) (Ev.hO D (D + 1) (D + 1) (D + 1) fr (m.map entA) l mn oa tk false)) := by
  have hlen : (((rowsP l).length : Nat) : Int) = ((l.length : Nat) : Int) := by simp [rowsP]
  unfold blockedB
  rcases ix66 (m := m) hl7 hD hO ho tk mn l [] rfl with ⟨h1, h2⟩ | ⟨h1, i, h2⟩
  · rw [h1]; exact gcf_n D hD fr _ l mn oa tk hlen h2
  · rw [h1]; exact gcf_y D hD fr _ l mn oa tk _ hlen h2 (decide_eq_true (by omega))
theorem lp48 {D : Nat} (hD : D < 8) {fr : Nat → Fr} {o : List (Int × Int)} (hO : OrdIs fr D o) (f : List (Int × Int) → List (List (Int × Int)))
    (hE : ∀ (c : Int × Int) (i : Int) (O : List (List (Int × Int))) (oa : AV) (tk : List (Nat × Nat)), c ∈ l → o.contains c = false → OutRel O oa tk → O.length ≤ many → D < 7 ∧ ∃ oa' tk', OutRel (told many O (f (o ++ [c]))).1 oa' tk' ∧
      Ev C9 noO (.call 48 (args48 (D + 1)) (Ev.hO (D + 1) (D + 2) (D + 1) (D + 1) (updO fr D c i (nr fr D c)) (m.map entA) l many oa tk false))
        (.val unitA (Ev.hO (D + 1) (D + 2) (D + 1) (D + 1) (updO fr D c i (nr fr D c)) (m.map entA) l many oa' tk' (told many O (f (o ++ [c]))).2))) :
    ∀ (rest pre : List (Int × Int)) (O : List (List (Int × Int))) (oa : AV) (tk : List (Nat × Nat)), pre ++ rest = l → OutRel O oa tk → O.length ≤ many →
    ∃ oa' tk', OutRel (told many O (rest.flatMap (tryC m l f o))).1 oa' tk' ∧
      Ev C9 noO (.code 48 false (loopOf Try.prog 48 0) { σ := fS l (pre.length : Nat) D, h := Ev.hO D (D + 1) (D + 1) D fr (m.map entA) l many oa tk false })
        (.code (xOf (told many O (rest.flatMap (tryC m l f o))).2) { σ := slots 47 [], h := Ev.hO D (D + 1) (D + 1) D fr (m.map entA) l many oa' tk' (told many O (rest.flatMap (tryC m l f o))).2 })
  | [], pre, O, oa, tk, h, hr, hlen => by
    refine ⟨oa, tk, ?_, ?_⟩
    · rw [List.flatMap_nil, told_nil hlen]; exact hr
    · rw [List.flatMap_nil, told_nil hlen]
      exact gq0 D hD fr _ l many oa tk _ (dge (by subst h; simp))
  | c :: rest, pre, O, oa, tk, h, hr, hlen => by
    have hlt := pre_lt h
    have hrow := row_at (g := rowC) h
    have ih := fun O oa tk hr hlen => lp48 hD hO f hE rest (pre ++ [c]) O oa tk (pre_snoc h) hr hlen
    simp only [len_snoc] at ih
    have hw : wr64 ((pre.length : Nat) + 1) = ((pre.length + 1 : Nat) : Int) := wrap_succ (by omega)
    have hc := hO.contains hD c
    have hcm : c ∈ l := by rw [← h]; simp
    rw [List.flatMap_cons]
    have hcf := cf_at (m := m) hl7 hD (hO.upd c (pre.length : Nat)) hr.ok tk many
    have ecc : (updC fr D c (pre.length : Nat) D).c = c := by simp [updC]
    rw [ecc] at hcf
    cases hoc : o.contains c with
    | true =>
      rw [hoc] at hc
      have e : tryC m l f o c = [] := by simp only [tryC, hoc, if_true]
      rw [e, List.nil_append]
      obtain ⟨oa', tk', h1, h2⟩ := ih O oa tk hr hlen
      exact ⟨oa', tk', h1, gq1 D hD fr _ l many oa hr.ok tk _ _ c _ _ (dlt hlt) hrow hc hw h2⟩
    | false =>
      rw [hoc] at hc
      cases hb : blockedB m l o c with
      | true =>
        rw [hb] at hcf
        have e : tryC m l f o c = [] := by simp only [tryC, hoc, hb]; rfl
        rw [e, List.nil_append]
        obtain ⟨oa', tk', h1, h2⟩ := ih O oa tk hr hlen
        exact ⟨oa', tk', h1, gq2 D hD fr _ l many oa hr.ok tk _ _ c _ _ (dlt hlt) hrow hc hcf hw h2⟩
      | false =>
        rw [hb] at hcf
        have e : tryC m l f o c = f (o ++ [c]) := by simp only [tryC, hoc, hb]; rfl
        rw [e]
        obtain ⟨hD7, oa1, tk1, h1, h2⟩ := hE c (pre.length : Nat) O oa tk hcm hoc hr hlen
        have hfp : false = false ∧ fitsP (nl fr D) 1 16 := ⟨rfl, by unfold fitsP; rw [hO.nl, hO.1]; omega⟩
        cases hbr : (told many O (f (o ++ [c]))).2 with
        | true =>
          rw [hbr] at h2
          rw [told_brk _ hbr]
          refine ⟨oa1, tk1, h1, ?_⟩
          rw [hbr]
          exact gq4 D hD7 fr _ l many oa oa1 h1.ok tk tk1 _ 0 c .ret { σ := [], h := {} } (dlt hlt) hrow hc hcf hfp h2
        | false =>
          rw [hbr] at h2
          obtain ⟨g1, g2, g3⟩ := told_go (rest.flatMap (tryC m l f o)) hbr
          rw [g1] at h1
          rw [g3]
          obtain ⟨oa', tk', h3, h4⟩ := ih (O ++ f (o ++ [c])) oa1 tk1 h1 g2
          exact ⟨oa', tk', h3, gq3 D hD7 fr _ l many oa oa1 h1.ok tk tk1 _ _ c _ _ (dlt hlt) hrow hc hcf hfp h2 hw h4⟩
theorem ev48 (hmany : many ≤ 1000) : ∀ (n D : Nat), D + n = 7 → ∀ (fr : Nat → Fr) (o : List (Int × Int)) (O : List (List (Int × Int))) (oa : AV) (tk : List (Nat × Nat)), OrdIs fr D o → o.Nodup → (∀ x ∈ o, x ∈ l) → OutRel O oa tk → O.length ≤ many →
    ∃ oa' tk', OutRel (told many O (everyL m l n o)).1 oa' tk' ∧
      Ev C9 noO (.call 48 (args48 D) (Ev.hO D (D + 1) D D fr (m.map entA) l many oa tk false)) (.val unitA (Ev.hO D (D + 1) D D fr (m.map entA) l many oa' tk' (told many O (everyL m l n o)).2)) := by
  intro n
  induction n with
  | zero =>
    intro D hDn fr o O oa tk hO hnd hsub hr hlen
    have hD : D < 8 := by omega
    have hall : ∀ c ∈ l, o.contains c = true := by
      intro c hc
      cases e : o.contains c with
      | true => rfl
      | false =>
        have hni : c ∉ o := fun h => by rw [List.contains_iff_mem.2 h] at e; cases e
        have := len_of_sub (c :: o) l (List.nodup_cons.2 ⟨hni, hnd⟩) (fun x hx => by
          rcases List.mem_cons.1 hx with rfl | hx
          · exact hc
          · exact hsub x hx)
        have := hO.1
        simp at *
        omega
    have hfl : ∀ rest : List (Int × Int), (∀ c ∈ rest, c ∈ l) → rest.flatMap (tryC m l (fun _ => []) o) = [] := by
      intro rest
      induction rest with
      | nil => intro _; rfl
      | cons c r ih =>
        intro h
        rw [List.flatMap_cons, ih fun x hx => h x (by simp [hx])]
        have := hall c (h c (by simp))
        simp only [tryC, this, if_true, List.append_nil]
    have hLP := lp48 (m := m) hl7 hD hO (fun _ => []) (many := many) (fun c i O oa tk hc hoc => by rw [hall c hc] at hoc; cases hoc) l []
    have key := ev48_self hmany hD hO (fun O oa tk hr hlen => hLP O oa tk rfl hr hlen) O oa tk hr hlen
    rw [hfl l fun c hc => hc, List.append_nil] at key
    exact key
  | succ n ih =>
    intro D hDn fr o O oa tk hO hnd hsub hr hlen
    have hD : D < 8 := by omega
    have hLP := lp48 (m := m) hl7 hD hO (everyL m l n) (many := many) (fun c i O oa tk hc hoc hr hlen => by
      have hni : c ∉ o := fun h => by rw [List.contains_iff_mem.2 h] at hoc; cases hoc
      refine ⟨by omega, ?_⟩
      exact ih (D + 1) (by omega) (updO fr D c i (nr fr D c)) (o ++ [c]) O oa tk (hO.next c i)
        (by rw [List.nodup_append]; exact ⟨hnd, by simp, fun a ha b hb e => by simp at hb; subst hb; exact hni (by rw [← e]; exact ha)⟩)
        (fun x hx => by rcases List.mem_append.1 hx with hx | hx; exact hsub x hx; simp at hx; subst hx; exact hc) hr hlen) l []
    exact ev48_self hmany hD hO (fun O oa tk hr hlen => hLP O oa tk rfl hr hlen) O oa tk hr hlen
end

end Go.Ev

namespace Go.Ev
open Go Go.RowKit Go.Proofs

theorem odne (fu : Bool) (r : List (List DV)) (sp : List S4) (es : List (Value × Bool × List DV)) (many : Int) (n : Nat) (l l1 : List (Int × Int)) (fr : Nat → Fr) 
    (h1 : rightSpec [.one (.sl 7 fu r)] = some [pbool true]) (h2 : metSpec [.one (.sl 7 fu r)] = some [.one (.mp es)]) (h3 : decide (many < 0) = false) (h4 : decide (many > 1000) = false) (h5 : decide ((es.length : Int) > 7) = false)
    (h6 : spansSpecP [.one (.sl 7 fu r)] = some [.one (.sl 4 false (rowsS sp))]) (h7 : ((rowsS sp).length : Int) = ((sp.length : Nat) : Int))
    (h8 : Ev C9 noO (.code 24 false (loopOf Try.prog 24 0) (s24 es many sp)) (.code (.exit 1) (e24 es many n l)))
    (h9 : Ev C9 noO (.call 36 [lS n, cmpF] (hL many (.d (.v (.slice none 0 0))) (pcells l))) (.val unitA (hL many (.d (.v (.slice none 0 0))) (pcells l1))))
    (h10 : freeze1 (hL many (.d (.v (.slice none 0 0))) (pcells l1)) (lS n) = some (.one (.sl 2 false (rowsP l1)), h24 many (.d (.v (.slice none 0 0))) [(site 24 41, 1, [.cells (pcells l1) true])] []))
    (h11 : Ev C9 noO (.call 48 (args48 0) (hO 0 1 0 0 fr es l1 many (.d (.v (.slice none 0 0))) [] false)) (.val unitA (hO 0 1 0 0 fr es l1 many (.d (.v (.slice none 0 0))) [] false))) :
    Ev C9 noO (.call 24 [.d (.sl 7 fu r), vi many] {}) (.val (.tup [(.d (.v (.slice none 0 0))), vi 0]) (h24 many (.d (.v (.slice none 0 0))) [] [])) :=
  symCT_ev (n := 80) (sc := [(site 24 12, Dec.prim [pbool true]), (site 24 15, Dec.prim [.one (.mp es)]), (site 24 18, Dec.b false), (site 24 21, Dec.b false), (site 24 26, Dec.b false), (site 24 28, Dec.prim [.one (.sl 4 false (rowsS sp))]), (site 24 29, Dec.int (sp.length : Nat)), (site 24 8001, Dec.loop [3, 4, 6, 7, 28, 29, 30] (X.exit 1) (e24 es many n l)),
    (site 24 44, Dec.call unitA (hL many (.d (.v (.slice none 0 0))) (pcells l1))), (site 24 8005, Dec.frz 7 (.one (.sl 2 false (rowsP l1))) (h24 many (.d (.v (.slice none 0 0))) [(site 24 41, 1, [.cells (pcells l1) true])] []) (site 24 41) 0), (site 24 8003, Dec.rng [3, 4, 47] unitA (hO 0 1 0 0 fr es l1 many (.d (.v (.slice none 0 0))) [] false))])
    (keep := [4, 5]) (L := [(site 24 41, 0), (loopSite 24, 0), (site 40 3, 0), (site 40 4, 0), (site 40 5, 0)]) (sc' := []) (by kernel_rfl) (AllP_cons h1 (AllP_cons h2 (AllP_cons h3 (AllP_cons h4 (AllP_cons h5 (AllP_cons h6 (AllP_cons h7 (AllP_cons h8 (AllP_cons h9 (AllP_cons h10 (AllP_cons (rfl : true = true) (AllP_cons h11 (AllP_cons (rfl : true = true) (AllP_cons (rfl : true = true) (AllP_cons (rfl : true = true) AllP_nil)))))))))))))))
theorem odnr (fu : Bool) (r : List (List DV)) (sp : List S4) (es : List (Value × Bool × List DV)) (many : Int) (n : Nat) (l l1 : List (Int × Int)) (fr : Nat → Fr) 
    (h1 : rightSpec [.one (.sl 7 fu r)] = some [pbool true]) (h2 : metSpec [.one (.sl 7 fu r)] = some [.one (.mp es)]) (h3 : decide (many < 0) = false) (h4 : decide (many > 1000) = false) (h5 : decide ((es.length : Int) > 7) = false)
    (h6 : spansSpecP [.one (.sl 7 fu r)] = some [.one (.sl 4 false (rowsS sp))]) (h7 : ((rowsS sp).length : Int) = ((sp.length : Nat) : Int))
    (h8 : Ev C9 noO (.code 24 false (loopOf Try.prog 24 0) (s24 es many sp)) (.code (.exit 1) (e24 es many n l)))
    (h9 : Ev C9 noO (.call 36 [lS n, cmpF] (hL many (.d (.v (.slice none 0 0))) (pcells l))) (.val unitA (hL many (.d (.v (.slice none 0 0))) (pcells l1))))
    (h10 : freeze1 (hL many (.d (.v (.slice none 0 0))) (pcells l1)) (lS n) = some (.one (.sl 2 false (rowsP l1)), h24 many (.d (.v (.slice none 0 0))) [(site 24 41, 1, [.cells (pcells l1) true])] []))
    (h11 : Ev C9 noO (.call 48 (args48 0) (hO 0 1 0 0 fr es l1 many (.d (.v (.slice none 0 0))) [] false)) (.val unitA (hO 0 1 0 0 fr es l1 many (.d (.v (.slice none 0 0))) [] true))) :
    Ev C9 noO (.call 24 [.d (.sl 7 fu r), vi many] {}) (.val (.tup [(.d (.v (.slice none 0 0))), vi 0]) (h24 many (.d (.v (.slice none 0 0))) [] [])) :=
  symCT_ev (n := 80) (sc := [(site 24 12, Dec.prim [pbool true]), (site 24 15, Dec.prim [.one (.mp es)]), (site 24 18, Dec.b false), (site 24 21, Dec.b false), (site 24 26, Dec.b false), (site 24 28, Dec.prim [.one (.sl 4 false (rowsS sp))]), (site 24 29, Dec.int (sp.length : Nat)), (site 24 8001, Dec.loop [3, 4, 6, 7, 28, 29, 30] (X.exit 1) (e24 es many n l)),
    (site 24 44, Dec.call unitA (hL many (.d (.v (.slice none 0 0))) (pcells l1))), (site 24 8005, Dec.frz 7 (.one (.sl 2 false (rowsP l1))) (h24 many (.d (.v (.slice none 0 0))) [(site 24 41, 1, [.cells (pcells l1) true])] []) (site 24 41) 0), (site 24 8003, Dec.rng [3, 4, 47] unitA (hO 0 1 0 0 fr es l1 many (.d (.v (.slice none 0 0))) [] true))])
    (keep := [4, 5]) (L := [(site 24 41, 0), (loopSite 24, 0), (site 40 3, 0), (site 40 4, 0), (site 40 5, 0)]) (sc' := []) (by kernel_rfl) (AllP_cons h1 (AllP_cons h2 (AllP_cons h3 (AllP_cons h4 (AllP_cons h5 (AllP_cons h6 (AllP_cons h7 (AllP_cons h8 (AllP_cons h9 (AllP_cons h10 (AllP_cons (rfl : true = true) (AllP_cons h11 (AllP_cons (rfl : true = true) (AllP_cons (rfl : true = true) (AllP_cons (rfl : true = true) AllP_nil)))))))))))))))
theorem odse (fu : Bool) (r : List (List DV)) (sp : List S4) (es : List (Value × Bool × List DV)) (many : Int) (n : Nat) (l l1 : List (Int × Int)) (fr : Nat → Fr) (rows : List (List DV)) (g : Nat) 
    (h1 : rightSpec [.one (.sl 7 fu r)] = some [pbool true]) (h2 : metSpec [.one (.sl 7 fu r)] = some [.one (.mp es)]) (h3 : decide (many < 0) = false) (h4 : decide (many > 1000) = false) (h5 : decide ((es.length : Int) > 7) = false)
    (h6 : spansSpecP [.one (.sl 7 fu r)] = some [.one (.sl 4 false (rowsS sp))]) (h7 : ((rowsS sp).length : Int) = ((sp.length : Nat) : Int))
    (h8 : Ev C9 noO (.code 24 false (loopOf Try.prog 24 0) (s24 es many sp)) (.code (.exit 1) (e24 es many n l)))
    (h9 : Ev C9 noO (.call 36 [lS n, cmpF] (hL many (.d (.v (.slice none 0 0))) (pcells l))) (.val unitA (hL many (.d (.v (.slice none 0 0))) (pcells l1))))
    (h10 : freeze1 (hL many (.d (.v (.slice none 0 0))) (pcells l1)) (lS n) = some (.one (.sl 2 false (rowsP l1)), h24 many (.d (.v (.slice none 0 0))) [(site 24 41, 1, [.cells (pcells l1) true])] []))
    (h11 : Ev C9 noO (.call 48 (args48 0) (hO 0 1 0 0 fr es l1 many (.d (.v (.slice none 0 0))) [] false)) (.val unitA (hO 0 1 0 0 fr es l1 many (.st 1 rows (site 24 56) g) [(site 24 56, g)] false))) :
    Ev C9 noO (.call 24 [.d (.sl 7 fu r), vi many] {}) (.val (.tup [(.st 1 rows (site 24 56) g), vi 0]) (h24 many (.st 1 rows (site 24 56) g) [] [(site 24 56, g)])) :=
  symCT_ev (n := 80) (sc := [(site 24 12, Dec.prim [pbool true]), (site 24 15, Dec.prim [.one (.mp es)]), (site 24 18, Dec.b false), (site 24 21, Dec.b false), (site 24 26, Dec.b false), (site 24 28, Dec.prim [.one (.sl 4 false (rowsS sp))]), (site 24 29, Dec.int (sp.length : Nat)), (site 24 8001, Dec.loop [3, 4, 6, 7, 28, 29, 30] (X.exit 1) (e24 es many n l)),
    (site 24 44, Dec.call unitA (hL many (.d (.v (.slice none 0 0))) (pcells l1))), (site 24 8005, Dec.frz 7 (.one (.sl 2 false (rowsP l1))) (h24 many (.d (.v (.slice none 0 0))) [(site 24 41, 1, [.cells (pcells l1) true])] []) (site 24 41) 0), (site 24 8003, Dec.rng [3, 4, 47] unitA (hO 0 1 0 0 fr es l1 many (.st 1 rows (site 24 56) g) [(site 24 56, g)] false))])
    (keep := [4, 5]) (L := [(site 24 41, 0), (loopSite 24, 0), (site 40 3, 0), (site 40 4, 0), (site 40 5, 0)]) (sc' := []) (by kernel_rfl) (AllP_cons h1 (AllP_cons h2 (AllP_cons h3 (AllP_cons h4 (AllP_cons h5 (AllP_cons h6 (AllP_cons h7 (AllP_cons h8 (AllP_cons h9 (AllP_cons h10 (AllP_cons (rfl : true = true) (AllP_cons h11 (AllP_cons (rfl : true = true) (AllP_cons (rfl : true = true) (AllP_cons (rfl : true = true) AllP_nil)))))))))))))))
theorem odsr (fu : Bool) (r : List (List DV)) (sp : List S4) (es : List (Value × Bool × List DV)) (many : Int) (n : Nat) (l l1 : List (Int × Int)) (fr : Nat → Fr) (rows : List (List DV)) (g : Nat) 
    (h1 : rightSpec [.one (.sl 7 fu r)] = some [pbool true]) (h2 : metSpec [.one (.sl 7 fu r)] = some [.one (.mp es)]) (h3 : decide (many < 0) = false) (h4 : decide (many > 1000) = false) (h5 : decide ((es.length : Int) > 7) = false)
    (h6 : spansSpecP [.one (.sl 7 fu r)] = some [.one (.sl 4 false (rowsS sp))]) (h7 : ((rowsS sp).length : Int) = ((sp.length : Nat) : Int))
    (h8 : Ev C9 noO (.code 24 false (loopOf Try.prog 24 0) (s24 es many sp)) (.code (.exit 1) (e24 es many n l)))
    (h9 : Ev C9 noO (.call 36 [lS n, cmpF] (hL many (.d (.v (.slice none 0 0))) (pcells l))) (.val unitA (hL many (.d (.v (.slice none 0 0))) (pcells l1))))
    (h10 : freeze1 (hL many (.d (.v (.slice none 0 0))) (pcells l1)) (lS n) = some (.one (.sl 2 false (rowsP l1)), h24 many (.d (.v (.slice none 0 0))) [(site 24 41, 1, [.cells (pcells l1) true])] []))
    (h11 : Ev C9 noO (.call 48 (args48 0) (hO 0 1 0 0 fr es l1 many (.d (.v (.slice none 0 0))) [] false)) (.val unitA (hO 0 1 0 0 fr es l1 many (.st 1 rows (site 24 56) g) [(site 24 56, g)] true))) :
    Ev C9 noO (.call 24 [.d (.sl 7 fu r), vi many] {}) (.val (.tup [(.st 1 rows (site 24 56) g), vi 0]) (h24 many (.st 1 rows (site 24 56) g) [] [(site 24 56, g)])) :=
  symCT_ev (n := 80) (sc := [(site 24 12, Dec.prim [pbool true]), (site 24 15, Dec.prim [.one (.mp es)]), (site 24 18, Dec.b false), (site 24 21, Dec.b false), (site 24 26, Dec.b false), (site 24 28, Dec.prim [.one (.sl 4 false (rowsS sp))]), (site 24 29, Dec.int (sp.length : Nat)), (site 24 8001, Dec.loop [3, 4, 6, 7, 28, 29, 30] (X.exit 1) (e24 es many n l)),
    (site 24 44, Dec.call unitA (hL many (.d (.v (.slice none 0 0))) (pcells l1))), (site 24 8005, Dec.frz 7 (.one (.sl 2 false (rowsP l1))) (h24 many (.d (.v (.slice none 0 0))) [(site 24 41, 1, [.cells (pcells l1) true])] []) (site 24 41) 0), (site 24 8003, Dec.rng [3, 4, 47] unitA (hO 0 1 0 0 fr es l1 many (.st 1 rows (site 24 56) g) [(site 24 56, g)] true))])
    (keep := [4, 5]) (L := [(site 24 41, 0), (loopSite 24, 0), (site 40 3, 0), (site 40 4, 0), (site 40 5, 0)]) (sc' := []) (by kernel_rfl) (AllP_cons h1 (AllP_cons h2 (AllP_cons h3 (AllP_cons h4 (AllP_cons h5 (AllP_cons h6 (AllP_cons h7 (AllP_cons h8 (AllP_cons h9 (AllP_cons h10 (AllP_cons (rfl : true = true) (AllP_cons h11 (AllP_cons (rfl : true = true) (AllP_cons (rfl : true = true) (AllP_cons (rfl : true = true) AllP_nil)))))))))))))))
theorem ozNy (many : Int) (h1 : decide (many < 0) = false) (h2 : decide (many > 1000) = false) (h3 : ((0 : Int) == many) = true) :
    Ev C9 noO (.call 24 [.d (.v (.slice none 0 0)), vi many] {}) (.val (.tup [(.d (.v (.slice none 0 0))), vi 0]) (h24 many (.d (.v (.slice none 0 0))) [] [])) :=
  symCT_ev (n := 300) (sc := [(site 24 18, Dec.b false), (site 24 21, Dec.b false), (site 24 52, Dec.b true)]) (keep := [4, 5]) (L := [(loopSite 24, 0), (site 40 3, 0), (site 40 4, 0), (site 40 5, 0), (site 48 4, 0)]) (sc' := []) (by kernel_rfl) (AllP_cons h1 (AllP_cons h2 (AllP_cons h3 (AllP_cons (rfl : true = true) (AllP_cons (rfl : true = true) (AllP_cons (rfl : true = true) AllP_nil))))))
theorem ozNn (many : Int) (h1 : decide (many < 0) = false) (h2 : decide (many > 1000) = false) (h3 : ((0 : Int) == many) = false) :
    Ev C9 noO (.call 24 [.d (.v (.slice none 0 0)), vi many] {}) (.val (.tup [(.st 1 [[.v (.slice none 0 0)]] (site 24 56) 1), vi 0]) (h24 many (.st 1 [[.v (.slice none 0 0)]] (site 24 56) 1) [] [(site 24 56, 1)])) :=
  symCT_ev (n := 300) (sc := [(site 24 18, Dec.b false), (site 24 21, Dec.b false), (site 24 52, Dec.b false)]) (keep := [4, 5]) (L := [(loopSite 24, 0), (site 40 3, 0), (site 40 4, 0), (site 40 5, 0), (site 48 4, 0)]) (sc' := []) (by kernel_rfl) (AllP_cons h1 (AllP_cons h2 (AllP_cons h3 (AllP_cons (rfl : true = true) (AllP_cons (rfl : true = true) (AllP_cons (rfl : true = true) AllP_nil))))))
theorem ozNa (many : Int) (h1 : decide (many < 0) = true) :
    Ev C9 noO (.call 24 [.d (.v (.slice none 0 0)), vi many] {}) (.val (.tup [(.d (.v (.slice none 0 0))), vi 1]) (h24 many (.d (.v (.slice none 0 0))) [] [])) :=
  sym_ev 80 _ [(site 24 18, Dec.b true)] _ [] _ (by kernel_rfl) (AllP_cons h1 AllP_nil)
theorem ozNb (many : Int) (h1 : decide (many < 0) = false) (h2 : decide (many > 1000) = true) :
    Ev C9 noO (.call 24 [.d (.v (.slice none 0 0)), vi many] {}) (.val (.tup [(.d (.v (.slice none 0 0))), vi 1]) (h24 many (.d (.v (.slice none 0 0))) [] [])) :=
  sym_ev 80 _ [(site 24 18, Dec.b false), (site 24 21, Dec.b true)] _ [] _ (by kernel_rfl) (AllP_cons h1 (AllP_cons h2 AllP_nil))
theorem ozEy (fu : Bool) (many : Int) (h1 : decide (many < 0) = false) (h2 : decide (many > 1000) = false) (h3 : ((0 : Int) == many) = true) :
    Ev C9 noO (.call 24 [.d (.sl 7 fu []), vi many] {}) (.val (.tup [(.d (.v (.slice none 0 0))), vi 0]) (h24 many (.d (.v (.slice none 0 0))) [] [])) :=
  symCT_ev (n := 300) (sc := [(site 24 18, Dec.b false), (site 24 21, Dec.b false), (site 24 52, Dec.b true)]) (keep := [4, 5]) (L := [(loopSite 24, 0), (site 40 3, 0), (site 40 4, 0), (site 40 5, 0), (site 48 4, 0)]) (sc' := []) (by kernel_rfl) (AllP_cons h1 (AllP_cons h2 (AllP_cons h3 (AllP_cons (rfl : true = true) (AllP_cons (rfl : true = true) (AllP_cons (rfl : true = true) AllP_nil))))))
theorem ozEn (fu : Bool) (many : Int) (h1 : decide (many < 0) = false) (h2 : decide (many > 1000) = false) (h3 : ((0 : Int) == many) = false) :
    Ev C9 noO (.call 24 [.d (.sl 7 fu []), vi many] {}) (.val (.tup [(.st 1 [[.v (.slice none 0 0)]] (site 24 56) 1), vi 0]) (h24 many (.st 1 [[.v (.slice none 0 0)]] (site 24 56) 1) [] [(site 24 56, 1)])) :=
  symCT_ev (n := 300) (sc := [(site 24 18, Dec.b false), (site 24 21, Dec.b false), (site 24 52, Dec.b false)]) (keep := [4, 5]) (L := [(loopSite 24, 0), (site 40 3, 0), (site 40 4, 0), (site 40 5, 0), (site 48 4, 0)]) (sc' := []) (by kernel_rfl) (AllP_cons h1 (AllP_cons h2 (AllP_cons h3 (AllP_cons (rfl : true = true) (AllP_cons (rfl : true = true) (AllP_cons (rfl : true = true) AllP_nil))))))
theorem ozEa (fu : Bool) (many : Int) (h1 : decide (many < 0) = true) :
    Ev C9 noO (.call 24 [.d (.sl 7 fu []), vi many] {}) (.val (.tup [(.d (.v (.slice none 0 0))), vi 1]) (h24 many (.d (.v (.slice none 0 0))) [] [])) :=
  sym_ev 80 _ [(site 24 18, Dec.b true)] _ [] _ (by kernel_rfl) (AllP_cons h1 AllP_nil)
theorem ozEb (fu : Bool) (many : Int) (h1 : decide (many < 0) = false) (h2 : decide (many > 1000) = true) :
    Ev C9 noO (.call 24 [.d (.sl 7 fu []), vi many] {}) (.val (.tup [(.d (.v (.slice none 0 0))), vi 1]) (h24 many (.d (.v (.slice none 0 0))) [] [])) :=
  sym_ev 80 _ [(site 24 18, Dec.b false), (site 24 21, Dec.b true)] _ [] _ (by kernel_rfl) (AllP_cons h1 (AllP_cons h2 AllP_nil))
theorem owr (fu : Bool) (r : List (List DV)) (es : List (Value × Bool × List DV)) (many : Int) (hr : rightSpec [.one (.sl 7 fu r)] = some [pbool false]) :
    Ev C9 noO (.call 24 [.d (.sl 7 fu r), vi many] {}) (.val (.tup [(.d (.v (.slice none 0 0))), vi 4]) (h24 many (.d (.v (.slice none 0 0))) [] [])) :=
  sym_ev 80 _ [(site 24 12, Dec.prim [pbool false])] _ [] _ (by kernel_rfl) (AllP_cons hr AllP_nil)
theorem owa (fu : Bool) (r : List (List DV)) (es : List (Value × Bool × List DV)) (many : Int) (hr : rightSpec [.one (.sl 7 fu r)] = some [pbool true]) (hm : metSpec [.one (.sl 7 fu r)] = some [.one (.mp es)]) (h1 : decide (many < 0) = true) :
    Ev C9 noO (.call 24 [.d (.sl 7 fu r), vi many] {}) (.val (.tup [(.d (.v (.slice none 0 0))), vi 1]) (h24 many (.d (.v (.slice none 0 0))) [] [])) :=
  sym_ev 80 _ [(site 24 12, Dec.prim [pbool true]), (site 24 15, Dec.prim [.one (.mp es)]), (site 24 18, Dec.b true)] _ [] _ (by kernel_rfl) (AllP_cons hr (AllP_cons hm (AllP_cons h1 AllP_nil)))
theorem owb (fu : Bool) (r : List (List DV)) (es : List (Value × Bool × List DV)) (many : Int) (hr : rightSpec [.one (.sl 7 fu r)] = some [pbool true]) (hm : metSpec [.one (.sl 7 fu r)] = some [.one (.mp es)]) (h1 : decide (many < 0) = false) (h2 : decide (many > 1000) = true) :
    Ev C9 noO (.call 24 [.d (.sl 7 fu r), vi many] {}) (.val (.tup [(.d (.v (.slice none 0 0))), vi 1]) (h24 many (.d (.v (.slice none 0 0))) [] [])) :=
  sym_ev 80 _ [(site 24 12, Dec.prim [pbool true]), (site 24 15, Dec.prim [.one (.mp es)]), (site 24 18, Dec.b false), (site 24 21, Dec.b true)] _ [] _ (by kernel_rfl) (AllP_cons hr (AllP_cons hm (AllP_cons h1 (AllP_cons h2 AllP_nil))))
theorem owc (fu : Bool) (r : List (List DV)) (es : List (Value × Bool × List DV)) (many : Int) (hr : rightSpec [.one (.sl 7 fu r)] = some [pbool true]) (hm : metSpec [.one (.sl 7 fu r)] = some [.one (.mp es)]) (h1 : decide (many < 0) = false) (h2 : decide (many > 1000) = false) (h3 : decide ((es.length : Int) > 7) = true) :
    Ev C9 noO (.call 24 [.d (.sl 7 fu r), vi many] {}) (.val (.tup [(.d (.v (.slice none 0 0))), vi 2]) (h24 many (.d (.v (.slice none 0 0))) [] [])) :=
  sym_ev 80 _ [(site 24 12, Dec.prim [pbool true]), (site 24 15, Dec.prim [.one (.mp es)]), (site 24 18, Dec.b false), (site 24 21, Dec.b false), (site 24 26, Dec.b true)] _ [] _ (by kernel_rfl) (AllP_cons hr (AllP_cons hm (AllP_cons h1 (AllP_cons h2 (AllP_cons h3 AllP_nil)))))

end Go.Ev

namespace Go.Ev
open Go Go.RowKit Go.Proofs

def ordL (l : List Evt) : List (List (Int × Int)) := everyL (metL 0 l []) (sortL [] (begI l)) 7 []
def ordersR (l : List Evt) (many : Int) : List PV :=
  if rightB l = false then [nilPV, pint 4] else if many < 0 ∨ many > 1000 then [nilPV, pint 1] else if (metL 0 l []).length > 7 then [nilPV, pint 2]
  else [madePV 1 (rowsO ((ordL l).take many.toNat)), pint 0]
def ordersSpec : Spec
  | [p, .one (.v (.int .i64 many))] => match evtsOf p with
    | some l => if l.length < 2 ^ 40 then some (ordersR l many) else none
    | none => none
  | _ => none
theorem sortL_len : ∀ (r p : List (Int × Int)), (sortL p r).length = p.length + r.length
  | [], p => by simp [sortL]
  | c :: r, p => by
    unfold sortL
    rw [sortL_len r, insL_len]
    simp; omega
theorem pcells_D (l : List (Int × Int)) : allSome cellD (pcells l) = some (rowsP l).flatten := by
  induction l with
  | nil => rfl
  | cons c l ih =>
    show allSome cellD ([vi c.1, vi c.2] ++ pcells l) = some ([di c.1, di c.2] ++ (rowsP l).flatten)
    exact allSome_append rfl ih
theorem pcells_len (l : List (Int × Int)) : (pcells l).length = l.length * 2 := fl_len (f := fun c : Int × Int => [vi c.1, vi c.2]) (w := 2) (fun _ => rfl) l
theorem frz24 (many : Int) (oa : AV) (l : List (Int × Int)) (n : Nat) (hn : l.length = n) : freeze1 (hL many oa (pcells l)) (lS n) = some (.one (.sl 2 false (rowsP l)), h24 many oa [(site 24 41, 1, [.cells (pcells l) true])] []) := by
  have hg : (hL many oa (pcells l)).get (site 24 41) 0 = some (.cells (pcells l) false) := by kernel_rfl
  have hs : (hL many oa (pcells l)).set (site 24 41) 0 (.cells (pcells l) true) = h24 many oa [(site 24 41, 1, [.cells (pcells l) true])] [] := by kernel_rfl
  have ht : takeCells (pcells l) 0 (n * 2) = some (pcells l) := by
    unfold takeCells
    have := pcells_len l
    rw [if_pos (by omega), List.drop_zero, List.take_of_length_le (by omega)]
  have hc : chunk 2 n (rowsP l).flatten = rowsP l := by
    have := chunk_rows (w := 2) (rowsP l) (fun r hr => by
      simp only [rowsP, List.mem_map] at hr
      obtain ⟨c, _, rfl⟩ := hr
      rfl)
    rw [show (rowsP l).length = n by simp [rowsP, hn]] at this
    exact this
  simp only [lS, freeze1, hg, rowsOf, ht, pcells_D, hc, hs]
theorem met_beg {l : List Evt} (h : rightB l = true) : (begI l).length ≤ (metL 0 l []).length := by
  have hm := (met_of h).1
  have := len_of_sub (begI l) ((metL 0 l []).map (·.1)) (beg_nodup h) fun c hc => by
    have h1 := (get_some hm c).2 ((mem_beg h c).1 hc)
    obtain ⟨v, hv⟩ := Option.isSome_iff_exists.1 h1
    have h2 := (getKV_mem c v (metL 0 l []) (keys_met l 0 [] (by simp))).1 hv
    exact List.mem_map.2 ⟨_, h2, rfl⟩
  simpa using this
theorem resA_made {O : List (List (Int × Int))} {oa : AV} {tk : List (Nat × Nat)} (h : OutRel O oa tk) (H1 : H) : resA H1 (.tup [oa, vi 0]) = some ([madePV 1 (rowsO O), pint 0], H1) := by
  rcases h with ⟨rfl, rfl, rfl⟩ | ⟨hne, g, rfl, rfl⟩
  · rfl
  · have : madePV 1 (rowsO O) = .one (.sl 1 false (rowsO O)) := by
      unfold madePV
      rw [if_neg (by simpa [rowsO] using hne)]
    rw [this]; rfl
theorem orders_sat : Sat C9 24 ordersSpec := by
  refine sat_of_ev (O := noO) hP9 (fun _ _ h => h.elim) hm0 fun ps rs hs => ?_
  unfold ordersSpec at hs
  split at hs
  · rename_i p many
    split at hs
    · rename_i l hl
      split at hs
      · rename_i hb
        simp only [Option.some.injEq] at hs
        subst hs
        have hz : ∀ {y : DV}, (∀ (h1 : decide (many < 0) = true), ∃ h1, Ev C9 noO (.call 24 [.d y, vi many] {}) (.val (.tup [.d (.v (.slice none 0 0)), vi 1]) h1)) →
            (∀ (h1 : decide (many < 0) = false) (h2 : decide (many > 1000) = true), ∃ h1, Ev C9 noO (.call 24 [.d y, vi many] {}) (.val (.tup [.d (.v (.slice none 0 0)), vi 1]) h1)) →
            (∀ (h1 : decide (many < 0) = false) (h2 : decide (many > 1000) = false) (h3 : ((0 : Int) == many) = true), ∃ h1, Ev C9 noO (.call 24 [.d y, vi many] {}) (.val (.tup [.d (.v (.slice none 0 0)), vi 0]) h1)) →
            (∀ (h1 : decide (many < 0) = false) (h2 : decide (many > 1000) = false) (h3 : ((0 : Int) == many) = false), ∃ h1, Ev C9 noO (.call 24 [.d y, vi many] {}) (.val (.tup [.st 1 [[.v (.slice none 0 0)]] (site 24 56) 1, vi 0]) h1)) →
            ∃ a h1 h2, Ev C9 noO (.call 24 [.d y, vi many] {}) (.val a h1) ∧ resA h1 a = some (ordersR [] many, h2) := by
          intro y k1 k2 k3 k4
          have hr : rightB [] = true := by decide
          unfold ordersR
          rw [hr]
          simp only [Bool.true_eq_false, if_false]
          by_cases h1 : many < 0
          · rw [if_pos (.inl h1)]
            obtain ⟨_, k⟩ := k1 (decide_eq_true h1)
            exact ⟨_, _, _, k, rfl⟩
          · by_cases h2 : many > 1000
            · rw [if_pos (.inr h2)]
              obtain ⟨_, k⟩ := k2 (decide_eq_false h1) (decide_eq_true h2)
              exact ⟨_, _, _, k, rfl⟩
            · rw [if_neg (by omega), if_neg (by simp [metL])]
              have ho : ordL [] = [[]] := by kernel_rfl
              rw [ho]
              by_cases h3 : many = 0
              · subst h3
                obtain ⟨_, k⟩ := k3 (decide_eq_false h1) (decide_eq_false h2) rfl
                exact ⟨_, _, _, k, rfl⟩
              · obtain ⟨_, k⟩ := k4 (decide_eq_false h1) (decide_eq_false h2) (by simp; omega)
                have e : ([[]] : List (List (Int × Int))).take many.toNat = [[]] := List.take_of_length_le (by simp; omega)
                rw [e]
                exact ⟨_, _, _, k, rfl⟩
        rcases evtsOf_cases hl with ⟨rfl, rfl⟩ | ⟨f, rfl⟩
        · exact hz (fun h1 => ⟨_, ozNa many h1⟩) (fun h1 h2 => ⟨_, ozNb many h1 h2⟩) (fun h1 h2 h3 => ⟨_, ozNy many h1 h2 h3⟩) (fun h1 h2 h3 => ⟨_, ozNn many h1 h2 h3⟩)
        · by_cases hn : l = []
          · subst hn
            exact hz (fun h1 => ⟨_, ozEa f many h1⟩) (fun h1 h2 => ⟨_, ozEb f many h1 h2⟩) (fun h1 h2 h3 => ⟨_, ozEy f many h1 h2 h3⟩) (fun h1 h2 h3 => ⟨_, ozEn f many h1 h2 h3⟩)
          · unfold ordersR
            cases hr : rightB l with
            | false =>
              simp only [if_true]
              exact ⟨_, _, _, owr f (evRows l) [] many (right_at hb hr), rfl⟩
            | true =>
              simp only [Bool.true_eq_false, if_false]
              have hra := right_at (f := f) hb hr
              have hma := met_at (f := f) hb
              by_cases h1 : many < 0
              · rw [if_pos (.inl h1)]
                exact ⟨_, _, _, owa f (evRows l) _ many hra hma (decide_eq_true h1), rfl⟩
              · by_cases h2 : many > 1000
                · rw [if_pos (.inr h2)]
                  exact ⟨_, _, _, owb f (evRows l) _ many hra hma (decide_eq_false h1) (decide_eq_true h2), rfl⟩
                · rw [if_neg (by omega)]
                  have hel : ((((metL 0 l []).map entA).length : Nat) : Int) = ((metL 0 l []).length : Nat) := by simp
                  by_cases h3 : (metL 0 l []).length > 7
                  · rw [if_pos h3]
                    exact ⟨_, _, _, owc f (evRows l) _ many hra hma (decide_eq_false h1) (decide_eq_false h2) (decide_eq_true (by rw [hel]; omega)), rfl⟩
                  · rw [if_neg h3]
                    have hbl : (begI l).length = (spansI l).length := by unfold begI; simp
                    have hb7 : (begI l).length ≤ 7 := by have := met_beg hr; omega
                    have hsn := spans_ne hr hn
                    have hbn : begI l ≠ [] := by unfold begI; simpa using hsn
                    have hsp := pspans_at (f := f) hb
                    rw [made_ne hsn] at hsp
                    have hl1 : (sortL [] (begI l)).length = (spansI l).length := by rw [sortL_len]; simp [hbl]
                    have hes : decide (((((metL 0 l []).map entA).length : Nat) : Int) > 7) = false := decide_eq_false (by rw [hel]; omega)
                    have hlen : (((rowsS (spansI l)).length : Nat) : Int) = ((spansI l).length : Nat) := by simp [rowsS]
                    have e1 := l24_all ((metL 0 l []).map entA) many (spansI l) hsn (by omega)
                    have e2 := srt_call many (.d (.v (.slice none 0 0))) (begI l) hbn hb7
                    rw [hbl] at e2
                    have e3 := frz24 many (.d (.v (.slice none 0 0))) (sortL [] (begI l)) (spansI l).length hl1
                    obtain ⟨k, rfl⟩ : ∃ k : Nat, many = k := ⟨many.toNat, by omega⟩
                    obtain ⟨oa, tk, r1, r2⟩ := ev48 (m := metL 0 l []) (l := sortL [] (begI l)) (by omega) (many := k) (by omega) 7 0 rfl (fun _ => ⟨[], (0, 0), 0⟩) [] [] (.d (.v (.slice none 0 0))) [] ⟨rfl, fun h => absurd h (by omega)⟩ List.nodup_nil (by simp) (.inl ⟨rfl, rfl, rfl⟩) (by simp)
                    have e4 : (told k [] (ordL l)).1 = (ordL l).take ((k : Nat) : Int).toNat := by simp [told]
                    have r1' : OutRel ((ordL l).take ((k : Nat) : Int).toNat) oa tk := by rw [← e4]; exact r1
                    have r2' : Ev C9 noO (.call 48 (args48 0) (Ev.hO 0 1 0 0 (fun _ => ⟨[], (0, 0), 0⟩) ((metL 0 l []).map entA) (sortL [] (begI l)) k (.d (.v (.slice none 0 0))) [] false)) (.val unitA (Ev.hO 0 1 0 0 (fun _ => ⟨[], (0, 0), 0⟩) ((metL 0 l []).map entA) (sortL [] (begI l)) k oa tk (told k [] (ordL l)).2)) := r2
                    have e5 := resA_made r1'
                    generalize (ordL l).take ((k : Nat) : Int).toNat = O at r1' e5
                    cases hbk : (told k [] (ordL l)).2 with
                    | true =>
                      rw [hbk] at r2'
                      rcases r1' with ⟨rfl, rfl, rfl⟩ | ⟨hne, g, rfl, rfl⟩
                      · exact ⟨_, _, _, odnr f _ _ _ _ _ _ _ _ hra hma (decide_eq_false h1) (decide_eq_false h2) hes hsp hlen e1 e2 e3 r2', e5 _⟩
                      · exact ⟨_, _, _, odsr f _ _ _ _ _ _ _ _ _ g hra hma (decide_eq_false h1) (decide_eq_false h2) hes hsp hlen e1 e2 e3 r2', e5 _⟩
                    | false =>
                      rw [hbk] at r2'
                      rcases r1' with ⟨rfl, rfl, rfl⟩ | ⟨hne, g, rfl, rfl⟩
                      · exact ⟨_, _, _, odne f _ _ _ _ _ _ _ _ hra hma (decide_eq_false h1) (decide_eq_false h2) hes hsp hlen e1 e2 e3 r2', e5 _⟩
                      · exact ⟨_, _, _, odse f _ _ _ _ _ _ _ _ _ g hra hma (decide_eq_false h1) (decide_eq_false h2) hes hsp hlen e1 e2 e3 r2', e5 _⟩
      · cases hs
    · cases hs
  · cases hs

def L9 : List (FuncId × Spec) := (24, ordersSpec) :: L8
noncomputable def C10 : Ctx := { P := Try.prog, prim := primL L9 }
theorem hP10 : PrimOK C10 := primOK_cons hP8 rfl (by decide) (orders_sat.ctx rfl rfl) rfl rfl rfl (by kernel_rfl)

end Go.Ev
