/- What the proof of this claim needs: part MI. No conditions. -/
import Derived.Test.YtgpdnahmgacffaaMH
set_option linter.unusedVariables false
set_option linter.unusedSimpArgs false

namespace Go.Ev
open Go Go.RowKit Go.Proofs

noncomputable def C9 : Ctx := { P := Try.prog, prim := primL L8, wr := fun f d => f == 24 && d == 41, nt := fun f d => f == 48 && d == 39 }
theorem hP9 : PrimOK C9 := fun g s h => by
  obtain ⟨h1, h2⟩ := hP8 g s h
  exact ⟨h1.ctx rfl rfl, h2⟩

/-- calls, cell by cell -/
def pcells (l : List (Int × Int)) : List AV := l.flatMap fun c => [vi c.1, vi c.2]
def h24 (many : Int) (oa : AV) (more : List (Nat × Nat × List AO)) (tk : List (Nat × Nat)) : H :=
  { objs := (site 24 3, 1, [.cells [vi many] false]) :: (site 24 4, 1, [.cells [oa] false]) :: more, toks := tk }
def hL (many : Int) (oa : AV) (cs : List AV) : H := h24 many oa [(site 24 41, 1, [.cells cs false])] []
def lS (n : Nat) : AV := .hs (site 24 41) 0 0 n 2
def cmpF : AV := .d (.v (.func (.func 37) #[] #[]))

end Go.Ev

namespace Go.Ev
open Go Go.RowKit Go.Proofs

theorem si_yyL (l : List (Int × Int)) (oa : AV) (many : Int) (i : Int) (j : Int) (n : Nat) (p : Nat) (q : Nat) (a : Int × Int) (b : Int × Int) (k : Int) (i29 : Int) (i41 : Int) (i44 : Int) (l1 : List (Int × Int)) (l12 : List (Int × Int)) (i36 : Int) (x : X) (s : St) (h1 : decide (j > 0) = true) (h2 : j = ↑p ∧ p < n) (h3 : asCells C9 23 (pcells l) (0 + p * 2) = some (AV.agg [vi a.1, vi a.2])) (h4 : wr64 (j - 1) = i29) (h5 : i29 = ↑q ∧ q < n) (h6 : asCells C9 23 (pcells l) (0 + q * 2) = some (AV.agg [vi b.1, vi b.2])) (h7 : cmpSpec [PV.agg [di a.1, di a.2], PV.agg [di b.1, di b.2]] = some [PV.one (di k)]) (h8 : decide (k < 0) = true) (h9 : wr64 (j - 1) = i41) (h10 : wr64 (j - 1) = i44) (h11 : i44 = ↑q ∧ q < n) (h12 : asCells C9 23 (pcells l) (0 + q * 2) = some (AV.agg [vi b.1, vi b.2])) (h13 : j = ↑p ∧ p < n) (h14 : asCells C9 23 (pcells l) (0 + p * 2) = some (AV.agg [vi a.1, vi a.2])) (h15 : j = ↑p ∧ p < n) (h16 : stoEq C9 23 (pcells l) (0 + p * 2) (AV.agg [vi b.1, vi b.2]) (pcells l1)) (h17 : i41 = ↑q ∧ q < n) (h18 : stoEq C9 23 (pcells l1) (0 + q * 2) (AV.agg [vi a.1, vi a.2]) (pcells l12)) (h19 : wr64 (j - 1) = i36) (h20 : Ev C9 noO (Task.code 55 false (loopOf Try.prog 55 1) { σ := slots 53 [(0, AV.hs 196649 0 0 n 2), (1, vi 0), (2, vi (Int.ofNat n)), (3, AV.d (DV.v (Value.func (Fn.func 37) { toList := [] } { toList := [] }))), (8, vi i), (9, vi i36)], h := { objs := [(196611, 1, [AO.cells [vi many] false]), (196612, 1, [AO.cells [oa] false]), (196649, 1, [AO.cells (pcells l12) false])] } }) (Res.code x s)) :
    Ev C9 noO (Task.code 55 false (loopOf Try.prog 55 1) { σ := slots 53 [(0, lS n), (1, vi 0), (2, vi ↑n), (3, cmpF), (8, vi i), (9, vi j)], h := hL many oa (pcells l) }) (.code (x) s) :=
  sym_ev 80 _ [(site 55 20, Dec.b true), (site 55 25, Dec.idx p), (site 55 26, Dec.ld (aggP a)), (site 55 29, Dec.int i29), (site 55 30, Dec.idx q), (site 55 31, Dec.ld (aggP b)), (site 55 32, Dec.prim [pint k]), (site 55 33, Dec.b true), (site 55 41, Dec.int i41), (site 55 44, Dec.int i44), (site 55 45, Dec.idx q), (site 55 46, Dec.ld (aggP b)), (site 55 49, Dec.idx p), (site 55 50, Dec.ld (aggP a)), (site 55 51, Dec.idx p), (site 55 8000, Dec.sto (pcells l1)), (site 55 52, Dec.idx q), (site 55 8000, Dec.sto (pcells l12)), (site 55 36, Dec.int i36), (site 55 8001, Dec.loop [0, 1, 2, 3, 8, 9] x s)] _ [] _ (by kernel_rfl) (AllP_cons h1 (AllP_cons h2 (AllP_cons h3 (AllP_cons h4 (AllP_cons h5 (AllP_cons h6 (AllP_cons h7 (AllP_cons h8 (AllP_cons h9 (AllP_cons h10 (AllP_cons h11 (AllP_cons h12 (AllP_cons h13 (AllP_cons h14 (AllP_cons h15 (AllP_cons h16 (AllP_cons h17 (AllP_cons h18 (AllP_cons h19 (AllP_cons h20 AllP_nil))))))))))))))))))))
theorem si_yn (l : List (Int × Int)) (oa : AV) (many : Int) (i : Int) (j : Int) (n : Nat) (p : Nat) (q : Nat) (a : Int × Int) (b : Int × Int) (k : Int) (i29 : Int) (h1 : decide (j > 0) = true) (h2 : j = ↑p ∧ p < n) (h3 : asCells C9 23 (pcells l) (0 + p * 2) = some (AV.agg [vi a.1, vi a.2])) (h4 : wr64 (j - 1) = i29) (h5 : i29 = ↑q ∧ q < n) (h6 : asCells C9 23 (pcells l) (0 + q * 2) = some (AV.agg [vi b.1, vi b.2])) (h7 : cmpSpec [PV.agg [di a.1, di a.2], PV.agg [di b.1, di b.2]] = some [PV.one (di k)]) (h8 : decide (k < 0) = false) :
    Ev C9 noO (Task.code 55 false (loopOf Try.prog 55 1) { σ := slots 53 [(0, lS n), (1, vi 0), (2, vi ↑n), (3, cmpF), (8, vi i), (9, vi j)], h := hL many oa (pcells l) }) (.code (X.exit 2) { σ := slots 53 [(0, AV.hs 196649 0 0 n 2), (1, vi 0), (2, vi (Int.ofNat n)), (3, AV.d (DV.v (Value.func (Fn.func 37) { toList := [] } { toList := [] }))), (8, vi i)], h := { objs := [(196611, 1, [AO.cells [vi many] false]), (196612, 1, [AO.cells [oa] false]), (196649, 1, [AO.cells (pcells l) false])] } }) :=
  symM_ev (n := 80) (sc := [(site 55 20, Dec.b true), (site 55 25, Dec.idx p), (site 55 26, Dec.ld (aggP a)), (site 55 29, Dec.int i29), (site 55 30, Dec.idx q), (site 55 31, Dec.ld (aggP b)), (site 55 32, Dec.prim [pint k]), (site 55 33, Dec.b false)]) (keep := [0, 1, 2, 3, 8]) (sc' := []) (by kernel_rfl) (AllP_cons h1 (AllP_cons h2 (AllP_cons h3 (AllP_cons h4 (AllP_cons h5 (AllP_cons h6 (AllP_cons h7 (AllP_cons h8 AllP_nil))))))))
theorem si_n (l : List (Int × Int)) (oa : AV) (many : Int) (i : Int) (j : Int) (n : Nat) (p : Nat) (q : Nat) (a : Int × Int) (b : Int × Int) (k : Int) (h1 : decide (j > 0) = false) :
    Ev C9 noO (Task.code 55 false (loopOf Try.prog 55 1) { σ := slots 53 [(0, lS n), (1, vi 0), (2, vi ↑n), (3, cmpF), (8, vi i), (9, vi j)], h := hL many oa (pcells l) }) (.code (X.exit 2) { σ := slots 53 [(0, AV.hs 196649 0 0 n 2), (1, vi 0), (2, vi (Int.ofNat n)), (3, AV.d (DV.v (Value.func (Fn.func 37) { toList := [] } { toList := [] }))), (8, vi i)], h := { objs := [(196611, 1, [AO.cells [vi many] false]), (196612, 1, [AO.cells [oa] false]), (196649, 1, [AO.cells (pcells l) false])] } }) :=
  symM_ev (n := 80) (sc := [(site 55 20, Dec.b false)]) (keep := [0, 1, 2, 3, 8]) (sc' := []) (by kernel_rfl) (AllP_cons h1 AllP_nil)
theorem so_yL (l : List (Int × Int)) (l1 : List (Int × Int)) (oa : AV) (many : Int) (i : Int) (n : Nat) (i16 : Int) (x : X) (s : St) (h1 : decide (i < ↑n) = true) (h2 : Ev C9 noO (Task.code 55 false (loopOf Try.prog 55 1) { σ := slots 53 [(0, AV.hs 196649 0 0 n 2), (1, vi 0), (2, vi (Int.ofNat n)), (3, AV.d (DV.v (Value.func (Fn.func 37) { toList := [] } { toList := [] }))), (8, vi i), (9, vi i)], h := { objs := [(196611, 1, [AO.cells [vi many] false]), (196612, 1, [AO.cells [oa] false]), (196649, 1, [AO.cells (pcells l) false])] } }) (Res.code (X.exit 2) { σ := slots 53 [(0, lS n), (1, vi 0), (2, vi ↑n), (3, cmpF), (8, vi i)], h := hL many oa (pcells l1) })) (h3 : wr64 (i + 1) = i16) (h4 : Ev C9 noO (Task.code 55 false (loopOf Try.prog 55 0) { σ := slots 53 [(0, AV.hs 196649 0 0 n 2), (1, vi 0), (2, vi (Int.ofNat n)), (3, AV.d (DV.v (Value.func (Fn.func 37) { toList := [] } { toList := [] }))), (8, vi i16)], h := { objs := [(196611, 1, [AO.cells [vi many] false]), (196612, 1, [AO.cells [oa] false]), (196649, 1, [AO.cells (pcells l1) false])] } }) (Res.code x s)) :
    Ev C9 noO (Task.code 55 false (loopOf Try.prog 55 0) { σ := slots 53 [(0, lS n), (1, vi 0), (2, vi ↑n), (3, cmpF), (8, vi i)], h := hL many oa (pcells l) }) (.code (x) s) :=
  sym_ev 80 _ [(site 55 14, Dec.b true), (site 55 8001, Dec.loop [0, 1, 2, 3, 8, 9] (X.exit 2) { σ := slots 53 [(0, lS n), (1, vi 0), (2, vi ↑n), (3, cmpF), (8, vi i)], h := hL many oa (pcells l1) }), (site 55 16, Dec.int i16), (site 55 8001, Dec.loop [0, 1, 2, 3, 8] x s)] _ [] _ (by kernel_rfl) (AllP_cons h1 (AllP_cons h2 (AllP_cons h3 (AllP_cons h4 AllP_nil))))
theorem so_n (l : List (Int × Int)) (l1 : List (Int × Int)) (oa : AV) (many : Int) (i : Int) (n : Nat) (h1 : decide (i < ↑n) = false) :
    Ev C9 noO (Task.code 55 false (loopOf Try.prog 55 0) { σ := slots 53 [(0, lS n), (1, vi 0), (2, vi ↑n), (3, cmpF), (8, vi i)], h := hL many oa (pcells l) }) (.code (X.exit 0) { σ := slots 53 [], h := { objs := [(196611, 1, [AO.cells [vi many] false]), (196612, 1, [AO.cells [oa] false]), (196649, 1, [AO.cells (pcells l) false])] } }) :=
  symM_ev (n := 80) (sc := [(site 55 14, Dec.b false)]) (keep := []) (sc' := []) (by kernel_rfl) (AllP_cons h1 AllP_nil)

end Go.Ev

namespace Go.Ev
open Go Go.RowKit Go.Proofs

theorem pc_ld {C : Ctx} (hC : C.P = Try.prog) {l : List (Int × Int)} {k : Nat} {c : Int × Int} (h : l[k]? = some c) : asCells C 23 (pcells l) (0 + k * 2) = some (.agg [vi c.1, vi c.2]) := by
  have e1 : isAggT C 23 = some true := by unfold isAggT; rw [hC]; kernel_rfl
  have e2 : sizeT C 23 = some 2 := by unfold sizeT; rw [hC]; kernel_rfl
  have := fl_take (f := fun c : Int × Int => [vi c.1, vi c.2]) (w := 2) (fun _ => rfl) h
  simp only [asCells, e1, e2]
  unfold pcells
  rw [this]
theorem pc_st {C : Ctx} (hC : C.P = Try.prog) {l : List (Int × Int)} {k : Nat} {d : Int × Int} (c : Int × Int) (h : l[k]? = some d) : stoEq C 23 (pcells l) (0 + k * 2) (.agg [vi c.1, vi c.2]) (pcells (l.set k c)) := by
  have e2 : sizeT C 23 = some 2 := by unfold sizeT; rw [hC]; kernel_rfl
  obtain ⟨h1, h2⟩ := fl_put (f := fun c : Int × Int => [vi c.1, vi c.2]) (w := 2) (a' := c) (j := 0) (xs := [vi c.1, vi c.2]) (fun _ => rfl) h rfl (by simp)
  exact ⟨2, e2, rfl, by simpa [pcells] using h2, rfl, by simpa [pcells, cellsA] using h1.symm⟩

/-- a call goes down to its place -/
def insL : List (Int × Int) → Int × Int → List (Int × Int) → List (Int × Int)
  | [], c, d => c :: d
  | x :: rp, c, d => if cmp2 c x < 0 then insL rp c (x :: d) else (x :: rp).reverse ++ c :: d
theorem insL_app : ∀ (rp : List (Int × Int)) (c : Int × Int) (d e : List (Int × Int)), insL rp c (d ++ e) = insL rp c d ++ e
  | [], c, d, e => rfl
  | x :: rp, c, d, e => by
    unfold insL
    split
    · rw [show x :: (d ++ e) = (x :: d) ++ e from rfl, insL_app rp c (x :: d) e]
    · simp
theorem insL_len : ∀ (rp : List (Int × Int)) (c : Int × Int) (d : List (Int × Int)), (insL rp c d).length = rp.length + 1 + d.length
  | [], c, d => by simp [insL]; omega
  | x :: rp, c, d => by
    unfold insL
    split
    · rw [insL_len rp c (x :: d)]; simp; omega
    · simp; omega
def sortL : List (Int × Int) → List (Int × Int) → List (Int × Int)
  | p, [] => p
  | p, c :: r => sortL (insL p.reverse c []) r
def sS (n : Nat) (more : List (Nat × AV)) (many : Int) (oa : AV) (l : List (Int × Int)) : St := { σ := slots 53 ((0, lS n) :: (1, vi 0) :: (2, vi n) :: (3, cmpF) :: more), h := hL many oa (pcells l) }
theorem si_loop (many : Int) (oa : AV) (n : Nat) (hb : n < 2 ^ 40) (i : Int) : ∀ (rp : List (Int × Int)) (c : Int × Int) (d : List (Int × Int)), rp.length + 1 + d.length = n →
    Ev C9 noO (.code 55 false (loopOf Try.prog 55 1) (sS n [(8, vi i), (9, vi (rp.length : Nat))] many oa (rp.reverse ++ c :: d))) (.code (.exit 2) (sS n [(8, vi i)] many oa (insL rp c d)))
  | [], c, d, hl => si_n _ oa many i _ n 0 0 c c 0 (decide_eq_false (by simp))
  | x :: rp, c, d, hl => by
    have h1 : ((x :: rp).reverse ++ c :: d)[(x :: rp).length]? = some c := by simp
    have h2 : ((x :: rp).reverse ++ c :: d)[rp.length]? = some x := by
      rw [List.reverse_cons, List.append_assoc, List.getElem?_append_right (by simp)]; simp
    have ld1 := pc_ld (C := C9) rfl h1
    have ld2 := pc_ld (C := C9) rfl h2
    simp only [List.length_cons] at hl
    have hw : wr64 (((x :: rp).length : Nat) - 1) = ((rp.length : Nat) : Int) := by
      rw [List.length_cons, show (((rp.length + 1 : Nat) : Int) - 1) = ((rp.length : Nat) : Int) by omega]
      exact wrap_ok (by omega) (by omega)
    have hc : cmpSpec [PV.agg [di c.1, di c.2], PV.agg [di x.1, di x.2]] = some [PV.one (di (cmp2 c x))] := rfl
    have hj : decide ((((x :: rp).length : Nat) : Int) > 0) = true := decide_eq_true (by simp)
    unfold insL
    by_cases hlt : cmp2 c x < 0
    · rw [if_pos hlt]
      have st1 := pc_st (C := C9) rfl x h1
      have e1 : ((x :: rp).reverse ++ c :: d).set (x :: rp).length x = rp.reverse ++ x :: x :: d := by
        rw [List.set_append_right _ _ (by simp)]; simp
      rw [e1] at st1
      have h3 : (rp.reverse ++ x :: x :: d)[rp.length]? = some x := by simp
      have st2 := pc_st (C := C9) rfl c h3
      have e2 : (rp.reverse ++ x :: x :: d).set rp.length c = rp.reverse ++ c :: x :: d := by
        rw [List.set_append_right _ _ (by simp)]; simp
      rw [e2] at st2
      have ih := si_loop many oa n hb i rp c (x :: d) (by simp; omega)
      exact si_yyL _ oa many i _ n (x :: rp).length rp.length c x (cmp2 c x) _ _ _ _ _ _ _ _ hj ⟨rfl, by simp; omega⟩ ld1 hw ⟨rfl, by omega⟩ ld2 hc (decide_eq_true hlt) hw hw ⟨rfl, by omega⟩ ld2 ⟨rfl, by simp; omega⟩ ld1 ⟨rfl, by simp; omega⟩ st1 ⟨rfl, by omega⟩ st2 hw ih
    · rw [if_neg hlt]
      exact si_yn _ oa many i _ n (x :: rp).length rp.length c x (cmp2 c x) _ hj ⟨rfl, by simp; omega⟩ ld1 hw ⟨rfl, by omega⟩ ld2 hc (decide_eq_false hlt)
theorem so_loop (many : Int) (oa : AV) (n : Nat) (hb : n < 2 ^ 40) : ∀ (rest p : List (Int × Int)), p.length + rest.length = n →
    Ev C9 noO (.code 55 false (loopOf Try.prog 55 0) (sS n [(8, vi (p.length : Nat))] many oa (p ++ rest))) (.code (.exit 0) { σ := slots 53 [], h := hL many oa (pcells (sortL p rest)) })
  | [], p, hl => by
    rw [List.append_nil]
    exact so_n p p oa many _ n (dge (by simpa using Nat.le_of_eq hl.symm))
  | c :: r, p, hl => by
    simp only [List.length_cons] at hl
    have h1 := si_loop many oa n hb (p.length : Nat) p.reverse c r (by simp; omega)
    simp only [List.reverse_reverse, List.length_reverse] at h1
    have e1 : insL p.reverse c r = insL p.reverse c [] ++ r := by rw [← insL_app]; rfl
    rw [e1] at h1
    have ih := so_loop many oa n hb r (insL p.reverse c []) (by rw [insL_len]; simp; omega)
    rw [insL_len] at ih
    simp only [List.length_reverse, List.length_nil, Nat.add_zero] at ih
    exact so_yL _ _ oa many _ n _ _ _ (dlt (by omega)) h1 (wrap_succ (by omega)) ih

end Go.Ev

namespace Go.Ev
open Go Go.RowKit Go.Proofs

theorem srt1 (many : Int) (oa : AV) (l l1 : List (Int × Int)) (h : Ev C9 noO (.code 55 false (loopOf Try.prog 55 0) { σ := slots 53 [(0, lS 1), (1, vi 0), (2, vi 1), (3, cmpF), (8, vi 1)], h := hL many oa (pcells l) }) (.code (.exit 0) { σ := slots 53 [], h := hL many oa (pcells l1) })) :
    Ev C9 noO (.call 36 [lS 1, cmpF] (hL many oa (pcells l))) (.val (.d (.v (.tuple #[]))) (hL many oa (pcells l1))) :=
  sym_ev 200 _ [(site 55 8001, Dec.loop [0, 1, 2, 3, 8] (.exit 0) { σ := slots 53 [], h := hL many oa (pcells l1) })] _ [] _ (by kernel_rfl) (AllP_cons h AllP_nil)
theorem srt2 (many : Int) (oa : AV) (l l1 : List (Int × Int)) (h : Ev C9 noO (.code 55 false (loopOf Try.prog 55 0) { σ := slots 53 [(0, lS 2), (1, vi 0), (2, vi 2), (3, cmpF), (8, vi 1)], h := hL many oa (pcells l) }) (.code (.exit 0) { σ := slots 53 [], h := hL many oa (pcells l1) })) :
    Ev C9 noO (.call 36 [lS 2, cmpF] (hL many oa (pcells l))) (.val (.d (.v (.tuple #[]))) (hL many oa (pcells l1))) :=
  sym_ev 200 _ [(site 55 8001, Dec.loop [0, 1, 2, 3, 8] (.exit 0) { σ := slots 53 [], h := hL many oa (pcells l1) })] _ [] _ (by kernel_rfl) (AllP_cons h AllP_nil)
theorem srt3 (many : Int) (oa : AV) (l l1 : List (Int × Int)) (h : Ev C9 noO (.code 55 false (loopOf Try.prog 55 0) { σ := slots 53 [(0, lS 3), (1, vi 0), (2, vi 3), (3, cmpF), (8, vi 1)], h := hL many oa (pcells l) }) (.code (.exit 0) { σ := slots 53 [], h := hL many oa (pcells l1) })) :
    Ev C9 noO (.call 36 [lS 3, cmpF] (hL many oa (pcells l))) (.val (.d (.v (.tuple #[]))) (hL many oa (pcells l1))) :=
  sym_ev 200 _ [(site 55 8001, Dec.loop [0, 1, 2, 3, 8] (.exit 0) { σ := slots 53 [], h := hL many oa (pcells l1) })] _ [] _ (by kernel_rfl) (AllP_cons h AllP_nil)
theorem srt4 (many : Int) (oa : AV) (l l1 : List (Int × Int)) (h : Ev C9 noO (.code 55 false (loopOf Try.prog 55 0) { σ := slots 53 [(0, lS 4), (1, vi 0), (2, vi 4), (3, cmpF), (8, vi 1)], h := hL many oa (pcells l) }) (.code (.exit 0) { σ := slots 53 [], h := hL many oa (pcells l1) })) :
    Ev C9 noO (.call 36 [lS 4, cmpF] (hL many oa (pcells l))) (.val (.d (.v (.tuple #[]))) (hL many oa (pcells l1))) :=
  sym_ev 200 _ [(site 55 8001, Dec.loop [0, 1, 2, 3, 8] (.exit 0) { σ := slots 53 [], h := hL many oa (pcells l1) })] _ [] _ (by kernel_rfl) (AllP_cons h AllP_nil)
theorem srt5 (many : Int) (oa : AV) (l l1 : List (Int × Int)) (h : Ev C9 noO (.code 55 false (loopOf Try.prog 55 0) { σ := slots 53 [(0, lS 5), (1, vi 0), (2, vi 5), (3, cmpF), (8, vi 1)], h := hL many oa (pcells l) }) (.code (.exit 0) { σ := slots 53 [], h := hL many oa (pcells l1) })) :
    Ev C9 noO (.call 36 [lS 5, cmpF] (hL many oa (pcells l))) (.val (.d (.v (.tuple #[]))) (hL many oa (pcells l1))) :=
  sym_ev 200 _ [(site 55 8001, Dec.loop [0, 1, 2, 3, 8] (.exit 0) { σ := slots 53 [], h := hL many oa (pcells l1) })] _ [] _ (by kernel_rfl) (AllP_cons h AllP_nil)
theorem srt6 (many : Int) (oa : AV) (l l1 : List (Int × Int)) (h : Ev C9 noO (.code 55 false (loopOf Try.prog 55 0) { σ := slots 53 [(0, lS 6), (1, vi 0), (2, vi 6), (3, cmpF), (8, vi 1)], h := hL many oa (pcells l) }) (.code (.exit 0) { σ := slots 53 [], h := hL many oa (pcells l1) })) :
    Ev C9 noO (.call 36 [lS 6, cmpF] (hL many oa (pcells l))) (.val (.d (.v (.tuple #[]))) (hL many oa (pcells l1))) :=
  sym_ev 200 _ [(site 55 8001, Dec.loop [0, 1, 2, 3, 8] (.exit 0) { σ := slots 53 [], h := hL many oa (pcells l1) })] _ [] _ (by kernel_rfl) (AllP_cons h AllP_nil)
theorem srt7 (many : Int) (oa : AV) (l l1 : List (Int × Int)) (h : Ev C9 noO (.code 55 false (loopOf Try.prog 55 0) { σ := slots 53 [(0, lS 7), (1, vi 0), (2, vi 7), (3, cmpF), (8, vi 1)], h := hL many oa (pcells l) }) (.code (.exit 0) { σ := slots 53 [], h := hL many oa (pcells l1) })) :
    Ev C9 noO (.call 36 [lS 7, cmpF] (hL many oa (pcells l))) (.val (.d (.v (.tuple #[]))) (hL many oa (pcells l1))) :=
  sym_ev 200 _ [(site 55 8001, Dec.loop [0, 1, 2, 3, 8] (.exit 0) { σ := slots 53 [], h := hL many oa (pcells l1) })] _ [] _ (by kernel_rfl) (AllP_cons h AllP_nil)
theorem srt_call (many : Int) (oa : AV) (l : List (Int × Int)) (h0 : l ≠ []) (h7 : l.length ≤ 7) : Ev C9 noO (.call 36 [lS l.length, cmpF] (hL many oa (pcells l))) (.val (.d (.v (.tuple #[]))) (hL many oa (pcells (sortL [] l)))) := by
  cases l with
  | nil => exact absurd rfl h0
  | cons c r =>
    have h := so_loop many oa (c :: r).length (by omega) r [c] (by simp; omega)
    have e : sortL [] (c :: r) = sortL [c] r := rfl
    rw [e]
    simp only [List.singleton_append] at h
    generalize hn : (c :: r).length = n at h h7 ⊢
    have hn0 : 0 < n := by rw [← hn]; simp
    match n, hn0, h7, h with
    | 1, _, _, h => exact srt1 _ _ _ _ h
    | 2, _, _, h => exact srt2 _ _ _ _ h
    | 3, _, _, h => exact srt3 _ _ _ _ h
    | 4, _, _, h => exact srt4 _ _ _ _ h
    | 5, _, _, h => exact srt5 _ _ _ _ h
    | 6, _, _, h => exact srt6 _ _ _ _ h
    | 7, _, _, h => exact srt7 _ _ _ _ h
    | n + 8, _, h7, _ => omega

end Go.Ev

namespace Go.Ev
open Go

theorem len_of_sub {α : Type} [BEq α] [LawfulBEq α] : ∀ (a b : List α), a.Nodup → (∀ x ∈ a, x ∈ b) → a.length ≤ b.length
  | [], b, _, _ => by simp
  | x :: a, b, hn, hs => by
    rw [List.nodup_cons] at hn
    have hx := hs x (by simp)
    have h2 := len_of_sub a (b.erase x) hn.2 fun y hy => by
      have hne : y ≠ x := fun e => hn.1 (by rw [← e]; exact hy)
      exact (List.mem_erase_of_ne hne).2 (hs y (by simp [hy]))
    rw [List.length_erase_of_mem hx] at h2
    have : 0 < b.length := List.length_pos_of_mem hx
    simp; omega

theorem rf1_of {l : List Evt} : ∀ (order pre : List (Int × Int)), (∀ c ∈ order, 0 ≤ placeI c false l) → (pre ++ order).Nodup → rf1 l pre order = true
  | [], pre, _, _ => rfl
  | c :: r, pre, h1, hn => by
    have h0 := h1 c (by simp)
    unfold rf1
    rw [if_neg (by omega)]
    have hc : pre.contains c = false := by
      cases e : pre.contains c with
      | false => rfl
      | true =>
        have := List.contains_iff_mem.1 e
        rw [List.nodup_append] at hn
        exact absurd rfl (hn.2.2 c this c (by simp))
    rw [hc]
    simp only [Bool.false_eq_true, if_false]
    exact rf1_of r (pre ++ [c]) (fun d hd => h1 d (by simp [hd])) (by simpa using hn)
theorem rf3_of {l : List Evt} : ∀ (order pre : List (Int × Int)), (pre ++ order).Pairwise (fun d c => refBeforeB l c d = false) → rf3 l pre order = true
  | [], pre, _ => rfl
  | c :: r, pre, h => by
    unfold rf3
    have h3 : rf3i l c pre = true := by
      cases e : rf3i l c pre with
      | true => rfl
      | false =>
        obtain ⟨d, hd, hb⟩ := (rf3i_iff l c pre).1 e
        rw [List.pairwise_append] at h
        have := h.2.2 d hd c (by simp)
        rw [hb] at this; cases this
    rw [if_pos h3]
    exact rf3_of r (pre ++ [c]) (by simpa using h)

theorem fits0 {l : List Evt} {order : List (Int × Int)} (hr : rightB l = true) (h1 : ∀ c ∈ order, 0 ≤ placeI c false l) (hn : order.Nodup)
    (h2 : ∀ s ∈ spansI l, 0 ≤ s.2.2.2 → (s.1, s.2.1) ∈ order) (h3 : order.Pairwise (fun d c => beforeB l c d = false)) : fitsB l order = 0 := by
  rw [fits_eq]
  unfold refFitsB
  rw [right_eq] at hr
  rw [hr, rf1_of order [] h1 (by simpa using hn), rf3_of order [] (by simpa [before_eq] using h3)]
  have e2 : rf2 order (refSpansI l) = true := by
    cases e : rf2 order (refSpansI l) with
    | true => rfl
    | false =>
      obtain ⟨s, hs, h4, h5⟩ := (rf2_iff order _).1 e
      rw [← spans_eq] at hs
      have := h2 s hs h4
      rw [← List.contains_iff_mem, h5] at this
      cases this
  rw [e2]
  rfl

theorem spansL_pw (all : List Evt) : ∀ (l : List Evt) (i : Nat), (refSpansL all i l).Pairwise (fun s t => s.2.2.1 < t.2.2.1) ∧ ∀ s ∈ refSpansL all i l, (i : Int) ≤ s.2.2.1
  | [], i => by simp [refSpansL]
  | e :: l, i => by
    obtain ⟨h1, h2⟩ := spansL_pw all l (i + 1)
    unfold refSpansL
    split
    · exact ⟨h1, fun s hs => by have := h2 s hs; omega⟩
    · rw [List.pairwise_cons]
      refine ⟨⟨fun s hs => ?_, h1⟩, fun s hs => ?_⟩
      · have := h2 s hs; simp only; omega
      · rcases List.mem_cons.1 hs with rfl | hs
        · simp
        · have := h2 s hs; omega

def callS (s : S4) : Int × Int := (s.1, s.2.1)
def begI (l : List Evt) : List (Int × Int) := (spansI l).map callS
def endI (l : List Evt) : List (Int × Int) := (l.filter fun e => e.re).map fun e => (e.th, e.ca)
def pendI (l : List Evt) : List (Int × Int) := ((spansI l).filter fun s => decide (s.2.2.2 < 0)).map callS
theorem nodup_of_pw {R : Int × Int → Int} : ∀ {o : List (Int × Int)}, o.Pairwise (fun a b => R a < R b) → o.Nodup := by
  intro o ho
  refine List.Pairwise.imp ?_ ho
  intro a b hab e
  rw [e] at hab
  omega
theorem pend_sub (l : List Evt) : (pendI l).Sublist (begI l) := List.Sublist.map _ List.filter_sublist

section
variable {l : List Evt} (h : rightB l = true)
include h
theorem spans_pw : (spansI l).Pairwise (fun s t => s.2.2.1 < t.2.2.1) := by
  rw [spans_eq]
  unfold refSpansI
  rw [← right_eq, h, if_pos rfl]
  exact (spansL_pw l l 0).1
theorem begun_of_end {c : Int × Int} (h0 : 0 ≤ placeI c true l) : 0 ≤ placeI c false l := by
  obtain ⟨n, e, e1, e2, e3, e4, e5⟩ := ix_of_place h0
  have hc := seq_of h e2
  have hca : 0 ≤ e.ca := by unfold code at hc; rw [e5] at hc; simp at hc; omega
  obtain ⟨m, d, d1, d2, d3, d4⟩ := cnt_hit e.th l (2 * e.ca).toNat n (by unfold code at hc; rw [e5] at hc; simp at hc; omega)
  have hd := seq_of h d2
  rw [d3, d4] at hd
  have hdr : d.re = false := by
    cases er : d.re with
    | false => rfl
    | true => unfold code at hd; rw [er] at hd; simp at hd; omega
  have hdc : d.ca = e.ca := by unfold code at hd; rw [hdr] at hd; simp at hd; omega
  have := place_at_ix h d2
  rw [hdr, d3, hdc, e3, e4] at this
  rw [this]; omega
theorem beg_pw : (begI l).Pairwise (fun a b => placeI a false l < placeI b false l) := by
  unfold begI
  rw [List.pairwise_map]
  refine List.Pairwise.imp_of_mem ?_ (spans_pw h)
  intro s t hs ht hlt
  have e1 := (spans_fact h hs).2.1
  have e2 := (spans_fact h ht).2.1
  unfold callS
  omega
theorem mem_beg (c : Int × Int) : c ∈ begI l ↔ 0 ≤ placeI c false l := by
  unfold begI
  constructor
  · intro hc
    obtain ⟨s, hs, rfl⟩ := List.mem_map.1 hc
    exact (spans_fact h hs).1
  · intro h0
    obtain ⟨n, e, e1, e2, e3, e4, e5⟩ := ix_of_place h0
    obtain ⟨x, x1, x2, x3, x4⟩ := refSpans_mem l e5 l 0 (List.mem_of_getElem? e2)
    refine List.mem_map.2 ⟨x, ?_, ?_⟩
    · rw [spans_eq]
      unfold refSpansI
      rw [← right_eq, h, if_pos rfl]
      exact x1
    · unfold callS
      rw [x2, x3, e3, e4]
theorem ends_pw : ∀ (rest pre : List Evt), pre ++ rest = l → ((rest.filter fun e => e.re).map fun e => (e.th, e.ca)).Pairwise (fun a b => placeI a true l < placeI b true l) ∧
    ∀ c ∈ (rest.filter fun e => e.re).map fun e => (e.th, e.ca), (pre.length : Int) ≤ placeI c true l
  | [], pre, _ => by simp
  | e :: rest, pre, hp => by
    obtain ⟨h1, h2⟩ := ends_pw rest (pre ++ [e]) (by simpa using hp)
    simp only [len_snoc] at h2
    cases hr : e.re with
    | false =>
      simp only [List.filter_cons, hr, Bool.false_eq_true, if_false]
      exact ⟨h1, fun c hc => by have := h2 c hc; omega⟩
    | true =>
      simp only [List.filter_cons, hr, if_true, List.map_cons, List.pairwise_cons]
      have he : l[pre.length]? = some e := by rw [← hp]; simp
      have hpl := place_at_ix h he
      rw [hr] at hpl
      refine ⟨⟨fun c hc => ?_, h1⟩, fun c hc => ?_⟩
      · have := h2 c hc; omega
      · rcases List.mem_cons.1 hc with rfl | hc
        · omega
        · have := h2 c hc; omega
theorem mem_end (c : Int × Int) : c ∈ endI l ↔ 0 ≤ placeI c true l := by
  constructor
  · intro hc
    have := (ends_pw h l [] rfl).2 c hc
    simpa using this
  · intro h0
    obtain ⟨n, e, e1, e2, e3, e4, e5⟩ := ix_of_place h0
    refine List.mem_map.2 ⟨e, ?_, by rw [e3, e4]⟩
    simp [List.mem_of_getElem? e2, e5]
theorem mem_pend (c : Int × Int) : c ∈ pendI l ↔ 0 ≤ placeI c false l ∧ placeI c true l < 0 := by
  unfold pendI
  constructor
  · intro hc
    obtain ⟨s, hs, rfl⟩ := List.mem_map.1 hc
    simp only [List.mem_filter, decide_eq_true_eq] at hs
    obtain ⟨h1, h2, h3⟩ := spans_fact h hs.1
    exact ⟨h1, by unfold callS; omega⟩
  · rintro ⟨h0, h1⟩
    have := (mem_beg h c).2 h0
    obtain ⟨s, hs, rfl⟩ := List.mem_map.1 this
    refine List.mem_map.2 ⟨s, ?_, rfl⟩
    simp only [List.mem_filter, decide_eq_true_eq]
    have := (spans_fact h hs).2.2
    unfold callS at h1
    exact ⟨hs, by omega⟩
theorem beg_nodup : (begI l).Nodup := nodup_of_pw (beg_pw h)
theorem end_nodup : (endI l).Nodup := nodup_of_pw (ends_pw h l [] rfl).1
theorem both_nodup : (endI l ++ pendI l).Nodup := by
  rw [List.nodup_append]
  refine ⟨end_nodup h, List.Nodup.sublist (pend_sub l) (beg_nodup h), fun a ha b hb e => ?_⟩
  rw [e] at ha
  have := (mem_end h b).1 ha
  have := (mem_pend h b).1 hb
  omega
theorem nbf {a b : Int × Int} (hx : ¬ (0 ≤ placeI a true l ∧ placeI a true l < placeI b false l)) : beforeB l a b = false := by
  cases e : beforeB l a b with
  | false => rfl
  | true => exact absurd ((before_iff h a b).1 e) hx
theorem fits_beg : fitsB l (begI l) = 0 := by
  refine fits0 h (fun c hc => (mem_beg h c).1 hc) (beg_nodup h) (fun s hs _ => List.mem_map.2 ⟨s, hs, rfl⟩) ?_
  refine List.Pairwise.imp_of_mem ?_ (beg_pw h)
  intro d c hd hc hlt
  refine nbf h fun hx => ?_
  have := end_after h c hx.1 ((mem_beg h c).1 hc)
  omega
theorem end_ok : (endI l).Pairwise (fun d c => beforeB l c d = false) := by
  refine List.Pairwise.imp_of_mem ?_ (ends_pw h l [] rfl).1
  intro d c hd hc hlt
  refine nbf h fun hx => ?_
  have h1 := (mem_end h d).1 hd
  have := end_after h d h1 (begun_of_end h h1)
  omega
theorem fits_end : fitsB l (endI l) = 0 := by
  refine fits0 h (fun c hc => begun_of_end h ((mem_end h c).1 hc)) (end_nodup h) (fun s hs h0 => (mem_end h _).2 ?_) (end_ok h)
  have := (spans_fact h hs).2.2
  omega
theorem fits_both : fitsB l (endI l ++ pendI l) = 0 := by
  refine fits0 h (fun c hc => ?_) (both_nodup h) (fun s hs h0 => ?_) ?_
  · rcases List.mem_append.1 hc with hc | hc
    · exact begun_of_end h ((mem_end h c).1 hc)
    · exact ((mem_pend h c).1 hc).1
  · have := (spans_fact h hs).2.2
    exact List.mem_append.2 (.inl ((mem_end h _).2 (by omega)))
  · rw [List.pairwise_append]
    refine ⟨end_ok h, ?_, fun d hd c hc => nbf h ?_⟩
    · refine List.Pairwise.imp_of_mem ?_ (List.Nodup.sublist (pend_sub l) (beg_nodup h))
      intro d c hd hc _
      have := ((mem_pend h c).1 hc).2
      exact nbf h (by omega)
    · have := ((mem_pend h c).1 hc).2
      omega
theorem both_len : (endI l ++ pendI l).length = (begI l).length := by
  refine Nat.le_antisymm (len_of_sub _ _ (both_nodup h) fun c hc => ?_) (len_of_sub _ _ (beg_nodup h) fun c hc => ?_)
  · rcases List.mem_append.1 hc with hc | hc
    · exact (mem_beg h c).2 (begun_of_end h ((mem_end h c).1 hc))
    · exact (mem_beg h c).2 ((mem_pend h c).1 hc).1
  · have h0 := (mem_beg h c).1 hc
    by_cases h1 : 0 ≤ placeI c true l
    · exact List.mem_append.2 (.inl ((mem_end h c).2 h1))
    · exact List.mem_append.2 (.inr ((mem_pend h c).2 ⟨h0, by omega⟩))
end

end Go.Ev

namespace Go.Ev
open Go Go.RowKit Go.Proofs

/-- the same, and a site's newest object becomes its first -/
def symC (C : Ctx) (O : Task → Res → Prop) (n : Nat) (fn : FuncId) (rd : Bool) (c : Code) (s : St) (sc : Script) (keep L : List Nat) (si m : Nat) : SM (X × St) :=
  match symD C O n fn rd c s sc keep L with
  | some ((x, s1), sc', ob) => match avColL si m s1.σ with
    | some σ' => some ((x, { σ := σ', h := s1.h.col si }), sc', ob ++ [s.h.count si = 0, s1.h.count si = m + 1, hFreeO si s1.h = true])
    | none => none
  | none => none
theorem symC_ev {C : Ctx} {O : Task → Res → Prop} {n : Nat} {fn : FuncId} {rd : Bool} {c : Code} {s s1 : St} {x : X} {sc sc' : Script} {keep L : List Nat} {si m : Nat} {ob : List Prop} (h : symC C O n fn rd c s sc keep L si m = some ((x, s1), sc', ob)) (hp : AllP ob) :
    Ev C O (.code fn rd c s) (.code x s1) := by
  unfold symC at h
  split at h
  · rename_i x1 s2 sc1 ob1 e
    split at h
    · rename_i σ' e2
      simp only [Option.some.injEq, Prod.mk.injEq] at h
      obtain ⟨⟨rfl, rfl⟩, rfl, rfl⟩ := h
      exact .colOut _ _ _ _ _ _ si m σ' (hp _ (by simp)) (hp _ (by simp)) (hp _ (by simp)) e2 (symD_ev e hp.left)
    · cases h
  · cases h

def s24 (es : List (Value × Bool × List DV)) (many : Int) (sp : List S4) : St :=
  { σ := slots 58 [(3, .ptr (site 24 3) 0 0), (4, .ptr (site 24 4) 0 0), (6, .d (.mp es)), (7, .d (.v (.slice none 0 0))), (28, .d (.sl 4 false (rowsS sp))), (29, vi (sp.length : Nat)), (30, vi 0)], h := h24 many (.d (.v (.slice none 0 0))) [] [] }
def e24 (es : List (Value × Bool × List DV)) (many : Int) (n : Nat) (l : List (Int × Int)) : St :=
  { σ := slots 58 [(3, .ptr (site 24 3) 0 0), (4, .ptr (site 24 4) 0 0), (6, .d (.mp es)), (7, lS n)], h := hL many (.d (.v (.slice none 0 0))) (pcells l) }
theorem l24_1 (es : List (Value × Bool × List DV)) (many : Int) (a0 : S4) : Ev C9 noO (.code 24 false (loopOf Try.prog 24 0) (s24 es many [a0])) (.code (.exit 1) (e24 es many 1 ([a0].map callS))) :=
  symC_ev (n := 400) (sc := []) (keep := [3, 4, 6, 7]) (L := [site 24 9]) (si := site 24 41) (m := 0) (sc' := []) (by kernel_rfl) (AllP_cons (rfl : true = true) (AllP_cons (rfl : true = true) (AllP_cons (rfl : true = true) (AllP_cons (rfl : 0 = 0) (AllP_cons (rfl : 1 = 1) (AllP_cons (rfl : true = true) AllP_nil))))))
theorem l24_2 (es : List (Value × Bool × List DV)) (many : Int) (a0 a1 : S4) : Ev C9 noO (.code 24 false (loopOf Try.prog 24 0) (s24 es many [a0, a1])) (.code (.exit 1) (e24 es many 2 ([a0, a1].map callS))) :=
  symC_ev (n := 400) (sc := []) (keep := [3, 4, 6, 7]) (L := [site 24 9]) (si := site 24 41) (m := 1) (sc' := []) (by kernel_rfl) (AllP_cons (rfl : true = true) (AllP_cons (rfl : true = true) (AllP_cons (rfl : true = true) (AllP_cons (rfl : 0 = 0) (AllP_cons (rfl : 2 = 2) (AllP_cons (rfl : true = true) AllP_nil))))))
theorem l24_3 (es : List (Value × Bool × List DV)) (many : Int) (a0 a1 a2 : S4) : Ev C9 noO (.code 24 false (loopOf Try.prog 24 0) (s24 es many [a0, a1, a2])) (.code (.exit 1) (e24 es many 3 ([a0, a1, a2].map callS))) :=
  symC_ev (n := 400) (sc := []) (keep := [3, 4, 6, 7]) (L := [site 24 9]) (si := site 24 41) (m := 2) (sc' := []) (by kernel_rfl) (AllP_cons (rfl : true = true) (AllP_cons (rfl : true = true) (AllP_cons (rfl : true = true) (AllP_cons (rfl : 0 = 0) (AllP_cons (rfl : 3 = 3) (AllP_cons (rfl : true = true) AllP_nil))))))
theorem l24_4 (es : List (Value × Bool × List DV)) (many : Int) (a0 a1 a2 a3 : S4) : Ev C9 noO (.code 24 false (loopOf Try.prog 24 0) (s24 es many [a0, a1, a2, a3])) (.code (.exit 1) (e24 es many 4 ([a0, a1, a2, a3].map callS))) :=
  symC_ev (n := 400) (sc := []) (keep := [3, 4, 6, 7]) (L := [site 24 9]) (si := site 24 41) (m := 3) (sc' := []) (by kernel_rfl) (AllP_cons (rfl : true = true) (AllP_cons (rfl : true = true) (AllP_cons (rfl : true = true) (AllP_cons (rfl : 0 = 0) (AllP_cons (rfl : 4 = 4) (AllP_cons (rfl : true = true) AllP_nil))))))
theorem l24_5 (es : List (Value × Bool × List DV)) (many : Int) (a0 a1 a2 a3 a4 : S4) : Ev C9 noO (.code 24 false (loopOf Try.prog 24 0) (s24 es many [a0, a1, a2, a3, a4])) (.code (.exit 1) (e24 es many 5 ([a0, a1, a2, a3, a4].map callS))) :=
  symC_ev (n := 400) (sc := []) (keep := [3, 4, 6, 7]) (L := [site 24 9]) (si := site 24 41) (m := 4) (sc' := []) (by kernel_rfl) (AllP_cons (rfl : true = true) (AllP_cons (rfl : true = true) (AllP_cons (rfl : true = true) (AllP_cons (rfl : 0 = 0) (AllP_cons (rfl : 5 = 5) (AllP_cons (rfl : true = true) AllP_nil))))))
theorem l24_6 (es : List (Value × Bool × List DV)) (many : Int) (a0 a1 a2 a3 a4 a5 : S4) : Ev C9 noO (.code 24 false (loopOf Try.prog 24 0) (s24 es many [a0, a1, a2, a3, a4, a5])) (.code (.exit 1) (e24 es many 6 ([a0, a1, a2, a3, a4, a5].map callS))) :=
  symC_ev (n := 400) (sc := []) (keep := [3, 4, 6, 7]) (L := [site 24 9]) (si := site 24 41) (m := 5) (sc' := []) (by kernel_rfl) (AllP_cons (rfl : true = true) (AllP_cons (rfl : true = true) (AllP_cons (rfl : true = true) (AllP_cons (rfl : 0 = 0) (AllP_cons (rfl : 6 = 6) (AllP_cons (rfl : true = true) AllP_nil))))))
theorem l24_7 (es : List (Value × Bool × List DV)) (many : Int) (a0 a1 a2 a3 a4 a5 a6 : S4) : Ev C9 noO (.code 24 false (loopOf Try.prog 24 0) (s24 es many [a0, a1, a2, a3, a4, a5, a6])) (.code (.exit 1) (e24 es many 7 ([a0, a1, a2, a3, a4, a5, a6].map callS))) :=
  symC_ev (n := 400) (sc := []) (keep := [3, 4, 6, 7]) (L := [site 24 9]) (si := site 24 41) (m := 6) (sc' := []) (by kernel_rfl) (AllP_cons (rfl : true = true) (AllP_cons (rfl : true = true) (AllP_cons (rfl : true = true) (AllP_cons (rfl : 0 = 0) (AllP_cons (rfl : 7 = 7) (AllP_cons (rfl : true = true) AllP_nil))))))
theorem l24_all (es : List (Value × Bool × List DV)) (many : Int) (sp : List S4) (h0 : sp ≠ []) (h7 : sp.length ≤ 7) : Ev C9 noO (.code 24 false (loopOf Try.prog 24 0) (s24 es many sp)) (.code (.exit 1) (e24 es many sp.length (sp.map callS))) := by
  match sp, h0, h7 with
  | [a0], _, _ => exact l24_1 es many a0
  | [a0, a1], _, _ => exact l24_2 es many a0 a1
  | [a0, a1, a2], _, _ => exact l24_3 es many a0 a1 a2
  | [a0, a1, a2, a3], _, _ => exact l24_4 es many a0 a1 a2 a3
  | [a0, a1, a2, a3, a4], _, _ => exact l24_5 es many a0 a1 a2 a3 a4
  | [a0, a1, a2, a3, a4, a5], _, _ => exact l24_6 es many a0 a1 a2 a3 a4 a5
  | [a0, a1, a2, a3, a4, a5, a6], _, _ => exact l24_7 es many a0 a1 a2 a3 a4 a5 a6
  | _ :: _ :: _ :: _ :: _ :: _ :: _ :: _ :: _, _, h7 => simp at h7

end Go.Ev

namespace Go.Ev
open Go Go.RowKit Go.Proofs

/-- the loop over a function of a function's code -/
def findRF : Code → Option (Array Tmp × Code × Code)
  | .rangeFunc _ ps a b => some (ps, a, b)
  | .seq a b => match findRF a with
    | some x => some x
    | none => findRF b
  | .cond _ a b => match findRF a with
    | some x => some x
    | none => findRF b
  | .block _ a => findRF a
  | .loop a => findRF a
  | _ => none
def rfOf (P : Program) (f : FuncId) : Option (Array Tmp × Code × Code) := match P.funcs[f]? with
  | some fd => match fd.body with
    | some c => findRF c
    | none => none
  | none => none
def bodyOf (P : Program) (f : FuncId) : Code := match P.funcs[f]? with
  | some fd => match fd.body with
    | some c => c
    | none => .skip
  | none => .skip
noncomputable def loopAO (f : FuncId) (brk : Bool) (pd : Code) (sl : List AV) : AO := match rfOf Try.prog f with
  | some (ps, a, b) => .loop (if brk then .done else .ready) (if brk then some pd else none) f sl ps.toList a b
  | none => .dead

/-- a call of the iterator: its order (row by row), the call that is tried behind it, and where that stands -/
structure Fr where
  r : List (List DV)
  c : Int × Int
  i : Int
def ordA (fr : Nat → Fr) : Nat → AV
  | 0 => .d (.v (.slice none 0 0))
  | j + 1 => .d (.sl 2 false (fr (j + 1)).r)
def yA : Nat → AV
  | 0 => .fn (.yield (loopSite 24) 0) [] []
  | j + 1 => .fn (.yield (loopSite 48) j) [] []
def lA (l : List (Int × Int)) : AV := .d (.sl 2 false (rowsP l))
def fS (l : List (Int × Int)) (i : Int) (j : Nat) : List AV :=
  slots 47 [(1, .ptr (site 40 3) j 0), (2, .ptr (site 40 5) j 0), (3, .ptr (site 40 4) j 0), (4, .ptr (site 48 4) j 0), (20, lA l), (21, vi (l.length : Nat)), (22, vi i)]
def clA (j : Nat) : AV := .fn (.fn (.func 48)) [] [.ptr (site 40 3) j 0, .ptr (site 40 5) j 0, .ptr (site 40 4) j 0]
def fL (l : List (Int × Int)) (i : Int) (j : Nat) : List AV :=
  slots 47 [(1, .ptr (site 40 3) j 0), (2, .ptr (site 40 5) j 0), (3, .ptr (site 40 4) j 0), (4, .ptr (site 48 4) j 0), (20, lA l), (21, vi (l.length : Nat)), (22, vi i), (40, clA (j + 1))]
def down {α : Type} (f : Nat → α) : Nat → List α
  | 0 => []
  | n + 1 => f n :: down f n
def ent (s n : Nat) (f : Nat → AO) : List (Nat × Nat × List AO) := match n with
  | 0 => []
  | n + 1 => [(s, n + 1, down f (n + 1))]
/-- the heap: D iterators wait, b have their boxes, y are under way, c try a call -/
noncomputable def hO (D b y c : Nat) (fr : Nat → Fr) (es : List (Value × Bool × List DV)) (l : List (Int × Int)) (many : Int) (oa : AV) (tk : List (Nat × Nat)) (brk : Bool) : H :=
  { objs := (site 24 3, 1, [.cells [vi many] false]) :: (site 24 4, 1, [.cells [oa] false]) :: (site 24 41, 1, [.dead]) ::
      (loopSite 24, 1, [loopAO 24 brk (.exit 3) (slots 58 [(3, .ptr (site 24 3) 0 0), (4, .ptr (site 24 4) 0 0), (47, clA 0)])]) ::
      (ent (site 40 3) b (fun _ => .cells [.d (.mp es)] false) ++ (ent (site 40 4) b (fun _ => .cells [lA l] false) ++ (ent (site 40 5) b (fun j => .cells [ordA fr j] false) ++
      (ent (site 48 4) y (fun j => .cells [yA j] false) ++ (ent (site 48 6) c (fun j => .cells [vi (fr j).c.1, vi (fr j).c.2] false) ++
       ent (loopSite 48) D (fun j => loopAO 48 brk .ret (fL l (fr j).i j))))))), toks := tk }
def args48 (D : Nat) : List AV := [yA D, .ptr (site 40 3) D 0, .ptr (site 40 5) D 0, .ptr (site 40 4) D 0]
/-- blocked -/
def blkF (D : Nat) : AV := .fn (.fn (.func 51)) [] [.ptr (site 40 5) D 0, .ptr (site 40 3) D 0, .ptr (site 48 6) D 0]

def ordP (fr : Nat → Fr) : Nat → PV
  | 0 => nilPV
  | j + 1 => .one (.sl 2 false (fr (j + 1)).r)
def rowC (c : Int × Int) : List DV := [di c.1, di c.2]
/-- the D-th iterator tries a call -/
def updC (fr : Nat → Fr) (D : Nat) (c : Int × Int) (i : Int) : Nat → Fr := fun j => if j = D then { r := (fr D).r, c := c, i := i } else fr j
/-- and a next one begins -/
def updO (fr : Nat → Fr) (D : Nat) (c : Int × Int) (i : Int) (r : List (List DV)) : Nat → Fr := fun j => if j = D then { r := (fr D).r, c := c, i := i } else if j = D + 1 then { r := r, c := (0, 0), i := 0 } else fr j
/-- what has been told so far: nothing, or a row -/
def OutOK (oa : AV) : Prop := oa = .d (.v (.slice none 0 0)) ∨ ∃ rows g, oa = .st 1 rows (site 24 56) g
def unitA : AV := .d (.v (.tuple #[]))

/-- a call, its objects taken out of the heap again -/
def symCT (C : Ctx) (O : Task → Res → Prop) (n : Nat) (f : FuncId) (args : List AV) (h : H) (sc : Script) (keep : List Nat) (L : List (Nat × Nat)) : SM (AV × H) :=
  match C.P.funcs[f]? with
  | some fd => match fd.body with
    | some c => match symT C O n f false c { σ := args ++ List.replicate (fd.ntmps - args.length) undefA, h := h } sc keep L with
      | some ((.normal, s), sc1, ob1) | some ((.ret, s), sc1, ob1) => match resultsA C fd s with
        | some a => some ((a, s.h), sc1, ob1)
        | none => none
      | _ => none
    | none => none
  | none => none
theorem symCT_ev {C : Ctx} {O : Task → Res → Prop} {n : Nat} {f : FuncId} {args : List AV} {h h1 : H} {a : AV} {sc sc' : Script} {keep : List Nat} {L : List (Nat × Nat)} {ob : List Prop} (e : symCT C O n f args h sc keep L = some ((a, h1), sc', ob)) (hp : AllP ob) :
    Ev C O (.call f args h) (.val a h1) := by
  unfold symCT at e
  split at e
  · rename_i fd hf
    split at e
    · rename_i c hb
      split at e
      · rename_i s sc1 ob1 e1
        split at e
        · rename_i a1 hr
          simp only [Option.some.injEq, Prod.mk.injEq] at e
          obtain ⟨⟨rfl, rfl⟩, rfl, rfl⟩ := e
          exact .call _ _ _ fd c .normal s _ hf hb (symT_ev e1 hp) (.inl rfl) hr
        · cases e
      · rename_i s sc1 ob1 e1
        split at e
        · rename_i a1 hr
          simp only [Option.some.injEq, Prod.mk.injEq] at e
          obtain ⟨⟨rfl, rfl⟩, rfl, rfl⟩ := e
          exact .call _ _ _ fd c .ret s _ hf hb (symT_ev e1 hp) (.inr rfl) hr
        · cases e
      · cases e
    · cases e
  · cases e

end Go.Ev

namespace Go.Ev
open Go Go.RowKit Go.Proofs

theorem f6_0 (fr : Nat → Fr) (es : List (Value × Bool × List DV)) (l : List (Int × Int)) (many : Int) {oa : AV} (ho : OutOK oa) (tk : List (Nat × Nat)) (brk : Bool) : ((hO 0 1 1 0 fr es l many oa tk brk).objs.all fun e => e.2.2.all (objFreeT [(site 48 6, 0)])) = true := by
  rcases ho with rfl | ⟨_, _, rfl⟩ <;> kernel_rfl
theorem f5_0 (fr : Nat → Fr) (es : List (Value × Bool × List DV)) (l : List (Int × Int)) (many : Int) {oa : AV} (ho : OutOK oa) (tk : List (Nat × Nat)) (brk : Bool) : ((hO 0 1 1 0 fr es l many oa tk brk).objs.all fun e => e.2.2.all (objFreeT [(site 40 3, 1), (site 40 4, 1), (site 40 5, 1), (site 48 6, 0), (loopSite 48, 0)])) = true := by
  rcases ho with rfl | ⟨_, _, rfl⟩ <;> kernel_rfl
theorem q0_0 (fr : Nat → Fr) (es : List (Value × Bool × List DV)) (l : List (Int × Int)) (many : Int) (oa : AV) (tk : List (Nat × Nat)) (i : Int) (h1 : decide (i < ((l.length : Nat) : Int)) = false) :
    Ev C9 noO (.code 48 false (loopOf Try.prog 48 0) { σ := fS l i 0, h := (hO 0 1 1 0 fr es l many oa tk false) }) (.code (.exit 0) { σ := slots 47 [], h := (hO 0 1 1 0 fr es l many oa tk false) }) :=
  symM_ev (n := 60) (sc := [(site 48 23, Dec.b false)]) (keep := []) (sc' := []) (by kernel_rfl) (AllP_cons h1 AllP_nil)
theorem q1_0 (fr : Nat → Fr) (es : List (Value × Bool × List DV)) (l : List (Int × Int)) (many : Int) (oa : AV) (ho : OutOK oa) (tk : List (Nat × Nat)) (i i1 : Int) (c : Int × Int) (x : X) (s : St) (h1 : decide (i < ((l.length : Nat) : Int)) = true) (h2 : 0 ≤ i ∧ (rowsP l)[i.toNat]? = some (rowC c)) (h3 : containsSpec [ordP fr 0, .agg (rowC c)] = some [pbool true]) (h4 : wr64 (i + 1) = i1)
    (h5 : Ev C9 noO (.code 48 false (loopOf Try.prog 48 0) { σ := fS l i1 0, h := (hO 0 1 1 0 fr es l many oa tk false) }) (.code x s)) : Ev C9 noO (.code 48 false (loopOf Try.prog 48 0) { σ := fS l i 0, h := (hO 0 1 1 0 fr es l many oa tk false) }) (.code x s) :=
  sym_ev 60 _ [(site 48 23, Dec.b true), (site 48 24, Dec.row (rowC c)), (site 48 28, Dec.prim [pbool true]), (site 48 46, Dec.int i1), (site 48 8002, Dec.trunc [(site 48 6, 0)] [1, 2, 3, 4, 20, 21, 22]), (site 48 8001, Dec.loop [1, 2, 3, 4, 20, 21, 22] x s)] _ [] _ (by kernel_rfl) (AllP_cons h1 (AllP_cons h2 (AllP_cons h3 (AllP_cons h4 (AllP_cons (rfl : true = true) (AllP_cons (f6_0 fr es l many ho tk false) (AllP_cons (rfl : true = true) (AllP_cons h5 AllP_nil))))))))
theorem q2_0 (fr : Nat → Fr) (es : List (Value × Bool × List DV)) (l : List (Int × Int)) (many : Int) (oa : AV) (ho : OutOK oa) (tk : List (Nat × Nat)) (i i1 : Int) (c : Int × Int) (x : X) (s : St) (h1 : decide (i < ((l.length : Nat) : Int)) = true) (h2 : 0 ≤ i ∧ (rowsP l)[i.toNat]? = some (rowC c)) (h3 : containsSpec [ordP fr 0, .agg (rowC c)] = some [pbool false])
    (hc : Ev C9 noO (.call 52 [lA l, blkF 0] (hO 0 1 1 1 (updC fr 0 c i) es l many oa tk false)) (.val (vb true) (hO 0 1 1 1 (updC fr 0 c i) es l many oa tk false))) (h4 : wr64 (i + 1) = i1)
    (h5 : Ev C9 noO (.code 48 false (loopOf Try.prog 48 0) { σ := fS l i1 0, h := (hO 0 1 1 0 fr es l many oa tk false) }) (.code x s)) : Ev C9 noO (.code 48 false (loopOf Try.prog 48 0) { σ := fS l i 0, h := (hO 0 1 1 0 fr es l many oa tk false) }) (.code x s) :=
  sym_ev 60 _ [(site 48 23, Dec.b true), (site 48 24, Dec.row (rowC c)), (site 48 28, Dec.prim [pbool false]), (site 48 32, Dec.call (vb true) (hO 0 1 1 1 (updC fr 0 c i) es l many oa tk false)), (site 48 46, Dec.int i1), (site 48 8002, Dec.trunc [(site 48 6, 0)] [1, 2, 3, 4, 20, 21, 22]), (site 48 8001, Dec.loop [1, 2, 3, 4, 20, 21, 22] x s)] _ [] _ (by kernel_rfl) (AllP_cons h1 (AllP_cons h2 (AllP_cons h3 (AllP_cons hc (AllP_cons h4 (AllP_cons (rfl : true = true) (AllP_cons (f6_0 fr es l many ho tk false) (AllP_cons (rfl : true = true) (AllP_cons h5 AllP_nil)))))))))
theorem q3_0 (fr : Nat → Fr) (es : List (Value × Bool × List DV)) (l : List (Int × Int)) (many : Int) (oa oa1 : AV) (ho1 : OutOK oa1) (tk tk1 : List (Nat × Nat)) (i i1 : Int) (c : Int × Int) (x : X) (s : St) (h1 : decide (i < ((l.length : Nat) : Int)) = true) (h2 : 0 ≤ i ∧ (rowsP l)[i.toNat]? = some (rowC c)) (h3 : containsSpec [ordP fr 0, .agg (rowC c)] = some [pbool false])
    (hc : Ev C9 noO (.call 52 [lA l, blkF 0] (hO 0 1 1 1 (updC fr 0 c i) es l many oa tk false)) (.val (vb false) (hO 0 1 1 1 (updC fr 0 c i) es l many oa tk false))) (hf : false = false ∧ fitsP 0 1 16)
    (he : Ev C9 noO (.call 48 (args48 1) (hO 1 2 1 1 (updO fr 0 c i [rowC c]) es l many oa tk false)) (.val unitA (hO 1 2 1 1 (updO fr 0 c i [rowC c]) es l many oa1 tk1 false))) (h4 : wr64 (i + 1) = i1)
    (h5 : Ev C9 noO (.code 48 false (loopOf Try.prog 48 0) { σ := fS l i1 0, h := (hO 0 1 1 0 fr es l many oa1 tk1 false) }) (.code x s)) : Ev C9 noO (.code 48 false (loopOf Try.prog 48 0) { σ := fS l i 0, h := (hO 0 1 1 0 fr es l many oa tk false) }) (.code x s) :=
  sym_ev 60 _ [(site 48 23, Dec.b true), (site 48 24, Dec.row (rowC c)), (site 48 28, Dec.prim [pbool false]), (site 48 32, Dec.call (vb false) (hO 0 1 1 1 (updC fr 0 c i) es l many oa tk false)), (site 48 39, Dec.app false), (site 48 8003, Dec.rng [1, 2, 3, 4, 20, 21, 22, 40] unitA (hO 1 2 1 1 (updO fr 0 c i [rowC c]) es l many oa1 tk1 false)), (site 48 46, Dec.int i1), (site 48 8002, Dec.trunc [(site 40 3, 1), (site 40 4, 1), (site 40 5, 1), (site 48 6, 0), (loopSite 48, 0)] [1, 2, 3, 4, 20, 21, 22]), (site 48 8001, Dec.loop [1, 2, 3, 4, 20, 21, 22] x s)] _ [] _ (by kernel_rfl) (AllP_cons h1 (AllP_cons h2 (AllP_cons h3 (AllP_cons hc (AllP_cons hf (AllP_cons he (AllP_cons h4 (AllP_cons (rfl : true = true) (AllP_cons (f5_0 fr es l many ho1 tk1 false) (AllP_cons (rfl : true = true) (AllP_cons h5 AllP_nil)))))))))))
theorem q4_0 (fr : Nat → Fr) (es : List (Value × Bool × List DV)) (l : List (Int × Int)) (many : Int) (oa oa1 : AV) (ho1 : OutOK oa1) (tk tk1 : List (Nat × Nat)) (i i1 : Int) (c : Int × Int) (x : X) (s : St) (h1 : decide (i < ((l.length : Nat) : Int)) = true) (h2 : 0 ≤ i ∧ (rowsP l)[i.toNat]? = some (rowC c)) (h3 : containsSpec [ordP fr 0, .agg (rowC c)] = some [pbool false])
    (hc : Ev C9 noO (.call 52 [lA l, blkF 0] (hO 0 1 1 1 (updC fr 0 c i) es l many oa tk false)) (.val (vb false) (hO 0 1 1 1 (updC fr 0 c i) es l many oa tk false))) (hf : false = false ∧ fitsP 0 1 16)
    (he : Ev C9 noO (.call 48 (args48 1) (hO 1 2 1 1 (updO fr 0 c i [rowC c]) es l many oa tk false)) (.val unitA (hO 1 2 1 1 (updO fr 0 c i [rowC c]) es l many oa1 tk1 true))) : Ev C9 noO (.code 48 false (loopOf Try.prog 48 0) { σ := fS l i 0, h := (hO 0 1 1 0 fr es l many oa tk false) }) (.code .ret { σ := slots 47 [], h := (hO 0 1 1 0 fr es l many oa1 tk1 true) }) :=
  symT_ev (n := 60) (sc := [(site 48 23, Dec.b true), (site 48 24, Dec.row (rowC c)), (site 48 28, Dec.prim [pbool false]), (site 48 32, Dec.call (vb false) (hO 0 1 1 1 (updC fr 0 c i) es l many oa tk false)), (site 48 39, Dec.app false), (site 48 8003, Dec.rng [1, 2, 3, 4, 20, 21, 22, 40] unitA (hO 1 2 1 1 (updO fr 0 c i [rowC c]) es l many oa1 tk1 true))]) (keep := []) (L := [(site 40 3, 1), (site 40 4, 1), (site 40 5, 1), (site 48 6, 0), (loopSite 48, 0)]) (sc' := []) (by kernel_rfl) (AllP_cons h1 (AllP_cons h2 (AllP_cons h3 (AllP_cons hc (AllP_cons hf (AllP_cons he (AllP_cons (rfl : true = true) (AllP_cons (f5_0 fr es l many ho1 tk1 true) (AllP_cons (rfl : true = true) AllP_nil)))))))))
theorem f1_0 (fr : Nat → Fr) (es : List (Value × Bool × List DV)) (l : List (Int × Int)) (many : Int) {oa : AV} (ho : OutOK oa) (tk : List (Nat × Nat)) : ((hO 0 1 1 1 fr es l many oa tk false).objs.all fun e => e.2.2.all (objFreeT [(site 51 4, 0)])) = true := by
  rcases ho with rfl | ⟨_, _, rfl⟩ <;> kernel_rfl
theorem r0_0 (fr : Nat → Fr) (es : List (Value × Bool × List DV)) (l : List (Int × Int)) (many : Int) (oa : AV) (tk : List (Nat × Nat)) (i : Int) (h1 : decide (i < ((l.length : Nat) : Int)) = false) :
    Ev C9 noO (.code 66 false (loopOf Try.prog 66 0) { σ := slots 19 [(0, lA l), (1, blkF 0), (7, vi ((l.length : Nat) : Int)), (8, vi i)], h := (hO 0 1 1 1 fr es l many oa tk false) }) (.code (.exit 0) { σ := slots 19 [], h := (hO 0 1 1 1 fr es l many oa tk false) }) :=
  symM_ev (n := 60) (sc := [(site 66 9, Dec.b false)]) (keep := []) (sc' := []) (by kernel_rfl) (AllP_cons h1 AllP_nil)
theorem r1_0 (fr : Nat → Fr) (es : List (Value × Bool × List DV)) (l : List (Int × Int)) (many : Int) (oa : AV) (tk : List (Nat × Nat)) (i i1 : Int) (y : Int × Int) (ho : OutOK oa) (x : X) (s : St) (h1 : decide (i < ((l.length : Nat) : Int)) = true) (h2 : 0 ≤ i ∧ (rowsP l)[i.toNat]? = some (rowC y)) (h3 : containsSpec [ordP fr 0, .agg (rowC y)] = some [pbool true]) (h4 : wr64 (i + 1) = i1)
    (h5 : Ev C9 noO (.code 66 false (loopOf Try.prog 66 0) { σ := slots 19 [(0, lA l), (1, blkF 0), (7, vi ((l.length : Nat) : Int)), (8, vi i1)], h := (hO 0 1 1 1 fr es l many oa tk false) }) (.code x s)) : Ev C9 noO (.code 66 false (loopOf Try.prog 66 0) { σ := slots 19 [(0, lA l), (1, blkF 0), (7, vi ((l.length : Nat) : Int)), (8, vi i)], h := (hO 0 1 1 1 fr es l many oa tk false) }) (.code x s) :=
  sym_ev 60 _ [(site 66 9, Dec.b true), (site 66 14, Dec.row (rowC y)), (site 51 8, Dec.prim [pbool true]), (site 66 18, Dec.int i1), (site 66 8002, Dec.trunc [(site 51 4, 0)] [0, 1, 7, 8]), (site 66 8001, Dec.loop [0, 1, 7, 8] x s)] _ [] _ (by kernel_rfl) (AllP_cons h1 (AllP_cons h2 (AllP_cons h3 (AllP_cons h4 (AllP_cons (rfl : true = true) (AllP_cons (f1_0 fr es l many ho tk) (AllP_cons (rfl : true = true) (AllP_cons h5 AllP_nil))))))))
theorem r2_0 (fr : Nat → Fr) (es : List (Value × Bool × List DV)) (l : List (Int × Int)) (many : Int) (oa : AV) (tk : List (Nat × Nat)) (i i1 : Int) (y : Int × Int) (ho : OutOK oa) (x : X) (s : St) (h1 : decide (i < ((l.length : Nat) : Int)) = true) (h2 : 0 ≤ i ∧ (rowsP l)[i.toNat]? = some (rowC y)) (h3 : containsSpec [ordP fr 0, .agg (rowC y)] = some [pbool false]) (u v : Int × Int) (h4 : lookupIn C9 59 es (.agg [vi y.1, vi y.2]) false = some (.agg [vi u.1, vi u.2])) (h5 : lookupIn C9 59 es (.agg [vi (fr 0).c.1, vi (fr 0).c.2]) false = some (.agg [vi v.1, vi v.2])) (h6 : aheadSpec [.agg (rowC u), .agg (rowC v)] = some [pbool false]) (h7 : wr64 (i + 1) = i1)
    (h8 : Ev C9 noO (.code 66 false (loopOf Try.prog 66 0) { σ := slots 19 [(0, lA l), (1, blkF 0), (7, vi ((l.length : Nat) : Int)), (8, vi i1)], h := (hO 0 1 1 1 fr es l many oa tk false) }) (.code x s)) : Ev C9 noO (.code 66 false (loopOf Try.prog 66 0) { σ := slots 19 [(0, lA l), (1, blkF 0), (7, vi ((l.length : Nat) : Int)), (8, vi i)], h := (hO 0 1 1 1 fr es l many oa tk false) }) (.code x s) :=
  sym_ev 60 _ [(site 66 9, Dec.b true), (site 66 14, Dec.row (rowC y)), (site 51 8, Dec.prim [pbool false]), (site 51 13, Dec.look (.agg [vi u.1, vi u.2])), (site 51 16, Dec.look (.agg [vi v.1, vi v.2])), (site 51 17, Dec.prim [pbool false]), (site 66 18, Dec.int i1), (site 66 8002, Dec.trunc [(site 51 4, 0)] [0, 1, 7, 8]), (site 66 8001, Dec.loop [0, 1, 7, 8] x s)] _ [] _ (by kernel_rfl) (AllP_cons h1 (AllP_cons h2 (AllP_cons h3 (AllP_cons h4 (AllP_cons h5 (AllP_cons h6 (AllP_cons h7 (AllP_cons (rfl : true = true) (AllP_cons (f1_0 fr es l many ho tk) (AllP_cons (rfl : true = true) (AllP_cons h8 AllP_nil)))))))))))
theorem r3_0 (fr : Nat → Fr) (es : List (Value × Bool × List DV)) (l : List (Int × Int)) (many : Int) (oa : AV) (tk : List (Nat × Nat)) (i i1 : Int) (y : Int × Int) (ho : OutOK oa) (h1 : decide (i < ((l.length : Nat) : Int)) = true) (h2 : 0 ≤ i ∧ (rowsP l)[i.toNat]? = some (rowC y)) (h3 : containsSpec [ordP fr 0, .agg (rowC y)] = some [pbool false]) (u v : Int × Int) (h4 : lookupIn C9 59 es (.agg [vi y.1, vi y.2]) false = some (.agg [vi u.1, vi u.2])) (h5 : lookupIn C9 59 es (.agg [vi (fr 0).c.1, vi (fr 0).c.2]) false = some (.agg [vi v.1, vi v.2])) (h6 : aheadSpec [.agg (rowC u), .agg (rowC v)] = some [pbool true]) :
    Ev C9 noO (.code 66 false (loopOf Try.prog 66 0) { σ := slots 19 [(0, lA l), (1, blkF 0), (7, vi ((l.length : Nat) : Int)), (8, vi i)], h := (hO 0 1 1 1 fr es l many oa tk false) }) (.code .ret { σ := slots 19 [(4, vi i)], h := (hO 0 1 1 1 fr es l many oa tk false) }) :=
  symT_ev (n := 60) (sc := [(site 66 9, Dec.b true), (site 66 14, Dec.row (rowC y)), (site 51 8, Dec.prim [pbool false]), (site 51 13, Dec.look (.agg [vi u.1, vi u.2])), (site 51 16, Dec.look (.agg [vi v.1, vi v.2])), (site 51 17, Dec.prim [pbool true])]) (keep := [4]) (L := [(site 51 4, 0)]) (sc' := []) (by kernel_rfl) (AllP_cons h1 (AllP_cons h2 (AllP_cons h3 (AllP_cons h4 (AllP_cons h5 (AllP_cons h6 (AllP_cons (rfl : true = true) (AllP_cons (f1_0 fr es l many ho tk) (AllP_cons (rfl : true = true) AllP_nil)))))))))
theorem cf_n_0 (fr : Nat → Fr) (es : List (Value × Bool × List DV)) (l : List (Int × Int)) (many : Int) (oa : AV) (tk : List (Nat × Nat)) (h1 : ((rowsP l).length : Int) = ((l.length : Nat) : Int)) (h : Ev C9 noO (.code 66 false (loopOf Try.prog 66 0) { σ := slots 19 [(0, lA l), (1, blkF 0), (7, vi ((l.length : Nat) : Int)), (8, vi 0)], h := (hO 0 1 1 1 fr es l many oa tk false) }) (.code (.exit 0) { σ := slots 19 [], h := (hO 0 1 1 1 fr es l many oa tk false) })) :
    Ev C9 noO (.call 52 [lA l, blkF 0] (hO 0 1 1 1 fr es l many oa tk false)) (.val (vb false) (hO 0 1 1 1 fr es l many oa tk false)) :=
  sym_ev 60 _ [(site 66 7, Dec.int ((l.length : Nat) : Int)), (site 66 8001, Dec.loop [0, 1, 7, 8] (.exit 0) { σ := slots 19 [], h := (hO 0 1 1 1 fr es l many oa tk false) })] _ [] _ (by kernel_rfl) (AllP_cons h1 (AllP_cons h AllP_nil))
theorem cf_y_0 (fr : Nat → Fr) (es : List (Value × Bool × List DV)) (l : List (Int × Int)) (many : Int) (oa : AV) (tk : List (Nat × Nat)) (i : Int) (h1 : ((rowsP l).length : Int) = ((l.length : Nat) : Int)) (h : Ev C9 noO (.code 66 false (loopOf Try.prog 66 0) { σ := slots 19 [(0, lA l), (1, blkF 0), (7, vi ((l.length : Nat) : Int)), (8, vi 0)], h := (hO 0 1 1 1 fr es l many oa tk false) }) (.code .ret { σ := slots 19 [(4, vi i)], h := (hO 0 1 1 1 fr es l many oa tk false) })) (h0 : decide (i ≥ 0) = true) :
    Ev C9 noO (.call 52 [lA l, blkF 0] (hO 0 1 1 1 fr es l many oa tk false)) (.val (vb true) (hO 0 1 1 1 fr es l many oa tk false)) :=
  sym_ev 60 _ [(site 66 7, Dec.int ((l.length : Nat) : Int)), (site 66 8001, Dec.loop [0, 1, 7, 8] .ret { σ := slots 19 [(4, vi i)], h := (hO 0 1 1 1 fr es l many oa tk false) }), (site 52 8, Dec.b true)] _ [] _ (by kernel_rfl) (AllP_cons h1 (AllP_cons h (AllP_cons h0 AllP_nil)))
theorem f4_0 (fr : Nat → Fr) (es : List (Value × Bool × List DV)) (l : List (Int × Int)) (many : Int) {oa : AV} (ho : OutOK oa) (tk : List (Nat × Nat)) (brk : Bool) : ((hO 0 1 0 0 fr es l many oa tk brk).objs.all fun e => e.2.2.all (objFreeT [(site 48 4, 0)])) = true := by
  rcases ho with rfl | ⟨_, _, rfl⟩ <;> kernel_rfl
theorem pne_0 (fr : Nat → Fr) (es : List (Value × Bool × List DV)) (l : List (Int × Int)) (many : Int) (oa : AV) (tk : List (Nat × Nat)) (k : Int) (hf : fitsSpec [.one (.mp es), ordP fr 0] = some [pint k]) (h0 : (k == 0) = false) (oa1 : AV) (ho1 : OutOK oa1) (tk1 : List (Nat × Nat)) (h21 : ((rowsP l).length : Int) = ((l.length : Nat) : Int))
    (hl : Ev C9 noO (.code 48 false (loopOf Try.prog 48 0) { σ := fS l 0 0, h := (hO 0 1 1 0 fr es l many oa tk false) }) (.code (.exit 0) { σ := slots 47 [], h := (hO 0 1 1 0 fr es l many oa1 tk1 false) })) : Ev C9 noO (.call 48 (args48 0) (hO 0 1 0 0 fr es l many oa tk false)) (.val unitA (hO 0 1 0 0 fr es l many oa1 tk1 false)) :=
  symCT_ev (n := 200) (sc := [(site 48 11, Dec.prim [pint k]), (site 48 12, Dec.b false), (site 48 21, Dec.int ((l.length : Nat) : Int)), (site 48 8001, Dec.loop [1, 2, 3, 4, 20, 21, 22] (.exit 0) { σ := slots 47 [], h := (hO 0 1 1 0 fr es l many oa1 tk1 false) })]) (keep := []) (L := [(site 48 4, 0)]) (sc' := []) (by kernel_rfl) (AllP_cons hf (AllP_cons h0 (AllP_cons h21 (AllP_cons hl (AllP_cons (rfl : true = true) (AllP_cons (f4_0 fr es l many ho1 tk1 false) (AllP_cons (rfl : true = true) AllP_nil)))))))
theorem pnr_0 (fr : Nat → Fr) (es : List (Value × Bool × List DV)) (l : List (Int × Int)) (many : Int) (oa : AV) (tk : List (Nat × Nat)) (k : Int) (hf : fitsSpec [.one (.mp es), ordP fr 0] = some [pint k]) (h0 : (k == 0) = false) (oa1 : AV) (ho1 : OutOK oa1) (tk1 : List (Nat × Nat)) (h21 : ((rowsP l).length : Int) = ((l.length : Nat) : Int))
    (hl : Ev C9 noO (.code 48 false (loopOf Try.prog 48 0) { σ := fS l 0 0, h := (hO 0 1 1 0 fr es l many oa tk false) }) (.code .ret { σ := slots 47 [], h := (hO 0 1 1 0 fr es l many oa1 tk1 true) })) : Ev C9 noO (.call 48 (args48 0) (hO 0 1 0 0 fr es l many oa tk false)) (.val unitA (hO 0 1 0 0 fr es l many oa1 tk1 true)) :=
  symCT_ev (n := 200) (sc := [(site 48 11, Dec.prim [pint k]), (site 48 12, Dec.b false), (site 48 21, Dec.int ((l.length : Nat) : Int)), (site 48 8001, Dec.loop [1, 2, 3, 4, 20, 21, 22] .ret { σ := slots 47 [], h := (hO 0 1 1 0 fr es l many oa1 tk1 true) })]) (keep := []) (L := [(site 48 4, 0)]) (sc' := []) (by kernel_rfl) (AllP_cons hf (AllP_cons h0 (AllP_cons h21 (AllP_cons hl (AllP_cons (rfl : true = true) (AllP_cons (f4_0 fr es l many ho1 tk1 true) (AllP_cons (rfl : true = true) AllP_nil)))))))
theorem py0e_0 (fr : Nat → Fr) (es : List (Value × Bool × List DV)) (l : List (Int × Int)) (many : Int) (hf : fitsSpec [.one (.mp es), ordP fr 0] = some [pint 0]) (hcl : true = true) (h52 : ((0 : Int) == many) = false) (oa1 : AV) (ho1 : OutOK oa1) (tk1 : List (Nat × Nat)) (h21 : ((rowsP l).length : Int) = ((l.length : Nat) : Int))
    (hl : Ev C9 noO (.code 48 false (loopOf Try.prog 48 0) { σ := fS l 0 0, h := (hO 0 1 1 0 fr es l many (.st 1 [[(.v (.slice none 0 0))]] (site 24 56) 1) [(site 24 56, 1)] false) }) (.code (.exit 0) { σ := slots 47 [], h := (hO 0 1 1 0 fr es l many oa1 tk1 false) })) : Ev C9 noO (.call 48 (args48 0) (hO 0 1 0 0 fr es l many (.d (.v (.slice none 0 0))) [] false)) (.val unitA (hO 0 1 0 0 fr es l many oa1 tk1 false)) :=
  symCT_ev (n := 200) (sc := [(site 48 11, Dec.prim [pint 0]), (site 24 52, Dec.b false), (site 48 21, Dec.int ((l.length : Nat) : Int)), (site 48 8001, Dec.loop [1, 2, 3, 4, 20, 21, 22] (.exit 0) { σ := slots 47 [], h := (hO 0 1 1 0 fr es l many oa1 tk1 false) })]) (keep := []) (L := [(site 48 4, 0)]) (sc' := []) (by kernel_rfl) (AllP_cons hf (AllP_cons h52 (AllP_cons h21 (AllP_cons hl (AllP_cons (rfl : true = true) (AllP_cons (f4_0 fr es l many ho1 tk1 false) (AllP_cons (rfl : true = true) AllP_nil)))))))
theorem py0r_0 (fr : Nat → Fr) (es : List (Value × Bool × List DV)) (l : List (Int × Int)) (many : Int) (hf : fitsSpec [.one (.mp es), ordP fr 0] = some [pint 0]) (hcl : true = true) (h52 : ((0 : Int) == many) = false) (oa1 : AV) (ho1 : OutOK oa1) (tk1 : List (Nat × Nat)) (h21 : ((rowsP l).length : Int) = ((l.length : Nat) : Int))
    (hl : Ev C9 noO (.code 48 false (loopOf Try.prog 48 0) { σ := fS l 0 0, h := (hO 0 1 1 0 fr es l many (.st 1 [[(.v (.slice none 0 0))]] (site 24 56) 1) [(site 24 56, 1)] false) }) (.code .ret { σ := slots 47 [], h := (hO 0 1 1 0 fr es l many oa1 tk1 true) })) : Ev C9 noO (.call 48 (args48 0) (hO 0 1 0 0 fr es l many (.d (.v (.slice none 0 0))) [] false)) (.val unitA (hO 0 1 0 0 fr es l many oa1 tk1 true)) :=
  symCT_ev (n := 200) (sc := [(site 48 11, Dec.prim [pint 0]), (site 24 52, Dec.b false), (site 48 21, Dec.int ((l.length : Nat) : Int)), (site 48 8001, Dec.loop [1, 2, 3, 4, 20, 21, 22] .ret { σ := slots 47 [], h := (hO 0 1 1 0 fr es l many oa1 tk1 true) })]) (keep := []) (L := [(site 48 4, 0)]) (sc' := []) (by kernel_rfl) (AllP_cons hf (AllP_cons h52 (AllP_cons h21 (AllP_cons hl (AllP_cons (rfl : true = true) (AllP_cons (f4_0 fr es l many ho1 tk1 true) (AllP_cons (rfl : true = true) AllP_nil)))))))
theorem py1e_0 (fr : Nat → Fr) (es : List (Value × Bool × List DV)) (l : List (Int × Int)) (many : Int) (rows : List (List DV)) (g : Nat) (n : Int) (hf : fitsSpec [.one (.mp es), ordP fr 0] = some [pint 0]) (hcl : true = true) (hn : (rows.length : Int) = n) (h52 : (n == many) = false) (hfp : false = false ∧ g = g ∧ fitsP rows.length 1 24) (oa1 : AV) (ho1 : OutOK oa1) (tk1 : List (Nat × Nat)) (h21 : ((rowsP l).length : Int) = ((l.length : Nat) : Int))
    (hl : Ev C9 noO (.code 48 false (loopOf Try.prog 48 0) { σ := fS l 0 0, h := (hO 0 1 1 0 fr es l many (.st 1 (rows ++ [[(.v (.slice none 0 0))]]) (site 24 56) (g + 1 + 1)) [(site 24 56, g + 1 + 1)] false) }) (.code (.exit 0) { σ := slots 47 [], h := (hO 0 1 1 0 fr es l many oa1 tk1 false) })) : Ev C9 noO (.call 48 (args48 0) (hO 0 1 0 0 fr es l many (.st 1 rows (site 24 56) g) [(site 24 56, g)] false)) (.val unitA (hO 0 1 0 0 fr es l many oa1 tk1 false)) :=
  symCT_ev (n := 200) (sc := [(site 48 11, Dec.prim [pint 0]), (site 24 50, Dec.int n), (site 24 52, Dec.b false), (site 24 56, Dec.app false), (site 48 21, Dec.int ((l.length : Nat) : Int)), (site 48 8001, Dec.loop [1, 2, 3, 4, 20, 21, 22] (.exit 0) { σ := slots 47 [], h := (hO 0 1 1 0 fr es l many oa1 tk1 false) })]) (keep := []) (L := [(site 48 4, 0)]) (sc' := []) (by kernel_rfl) (AllP_cons hf (AllP_cons hn (AllP_cons h52 (AllP_cons hfp (AllP_cons h21 (AllP_cons hl (AllP_cons (rfl : true = true) (AllP_cons (f4_0 fr es l many ho1 tk1 false) (AllP_cons (rfl : true = true) AllP_nil)))))))))
theorem py1r_0 (fr : Nat → Fr) (es : List (Value × Bool × List DV)) (l : List (Int × Int)) (many : Int) (rows : List (List DV)) (g : Nat) (n : Int) (hf : fitsSpec [.one (.mp es), ordP fr 0] = some [pint 0]) (hcl : true = true) (hn : (rows.length : Int) = n) (h52 : (n == many) = false) (hfp : false = false ∧ g = g ∧ fitsP rows.length 1 24) (oa1 : AV) (ho1 : OutOK oa1) (tk1 : List (Nat × Nat)) (h21 : ((rowsP l).length : Int) = ((l.length : Nat) : Int))
    (hl : Ev C9 noO (.code 48 false (loopOf Try.prog 48 0) { σ := fS l 0 0, h := (hO 0 1 1 0 fr es l many (.st 1 (rows ++ [[(.v (.slice none 0 0))]]) (site 24 56) (g + 1 + 1)) [(site 24 56, g + 1 + 1)] false) }) (.code .ret { σ := slots 47 [], h := (hO 0 1 1 0 fr es l many oa1 tk1 true) })) : Ev C9 noO (.call 48 (args48 0) (hO 0 1 0 0 fr es l many (.st 1 rows (site 24 56) g) [(site 24 56, g)] false)) (.val unitA (hO 0 1 0 0 fr es l many oa1 tk1 true)) :=
  symCT_ev (n := 200) (sc := [(site 48 11, Dec.prim [pint 0]), (site 24 50, Dec.int n), (site 24 52, Dec.b false), (site 24 56, Dec.app false), (site 48 21, Dec.int ((l.length : Nat) : Int)), (site 48 8001, Dec.loop [1, 2, 3, 4, 20, 21, 22] .ret { σ := slots 47 [], h := (hO 0 1 1 0 fr es l many oa1 tk1 true) })]) (keep := []) (L := [(site 48 4, 0)]) (sc' := []) (by kernel_rfl) (AllP_cons hf (AllP_cons hn (AllP_cons h52 (AllP_cons hfp (AllP_cons h21 (AllP_cons hl (AllP_cons (rfl : true = true) (AllP_cons (f4_0 fr es l many ho1 tk1 true) (AllP_cons (rfl : true = true) AllP_nil)))))))))
theorem pb0_0 (fr : Nat → Fr) (es : List (Value × Bool × List DV)) (l : List (Int × Int)) (many : Int) (hf : fitsSpec [.one (.mp es), ordP fr 0] = some [pint 0]) (hcl : true = true) (h52 : ((0 : Int) == many) = true) : Ev C9 noO (.call 48 (args48 0) (hO 0 1 0 0 fr es l many (.d (.v (.slice none 0 0))) [] false)) (.val unitA (hO 0 1 0 0 fr es l many (.d (.v (.slice none 0 0))) [] true)) :=
  symCT_ev (n := 200) (sc := [(site 48 11, Dec.prim [pint 0]), (site 24 52, Dec.b true)]) (keep := []) (L := [(site 48 4, 0)]) (sc' := []) (by kernel_rfl) (AllP_cons hf (AllP_cons h52 (AllP_cons (rfl : true = true) (AllP_cons (rfl : true = true) (AllP_cons (rfl : true = true) AllP_nil)))))
theorem pb1_0 (fr : Nat → Fr) (es : List (Value × Bool × List DV)) (l : List (Int × Int)) (many : Int) (rows : List (List DV)) (g : Nat) (n : Int) (hf : fitsSpec [.one (.mp es), ordP fr 0] = some [pint 0]) (hcl : true = true) (hn : (rows.length : Int) = n) (h52 : (n == many) = true) : Ev C9 noO (.call 48 (args48 0) (hO 0 1 0 0 fr es l many (.st 1 rows (site 24 56) g) [(site 24 56, g)] false)) (.val unitA (hO 0 1 0 0 fr es l many (.st 1 rows (site 24 56) g) [(site 24 56, g)] true)) :=
  symCT_ev (n := 200) (sc := [(site 48 11, Dec.prim [pint 0]), (site 24 50, Dec.int n), (site 24 52, Dec.b true)]) (keep := []) (L := [(site 48 4, 0)]) (sc' := []) (by kernel_rfl) (AllP_cons hf (AllP_cons hn (AllP_cons h52 (AllP_cons (rfl : true = true) (AllP_cons (rfl : true = true) (AllP_cons (rfl : true = true) AllP_nil))))))

end Go.Ev

namespace Go.Ev
open Go Go.RowKit Go.Proofs

theorem f6_1 (fr : Nat → Fr) (es : List (Value × Bool × List DV)) (l : List (Int × Int)) (many : Int) {oa : AV} (ho : OutOK oa) (tk : List (Nat × Nat)) (brk : Bool) : ((hO 1 2 2 1 fr es l many oa tk brk).objs.all fun e => e.2.2.all (objFreeT [(site 48 6, 1)])) = true := by
  rcases ho with rfl | ⟨_, _, rfl⟩ <;> kernel_rfl
theorem f5_1 (fr : Nat → Fr) (es : List (Value × Bool × List DV)) (l : List (Int × Int)) (many : Int) {oa : AV} (ho : OutOK oa) (tk : List (Nat × Nat)) (brk : Bool) : ((hO 1 2 2 1 fr es l many oa tk brk).objs.all fun e => e.2.2.all (objFreeT [(site 40 3, 2), (site 40 4, 2), (site 40 5, 2), (site 48 6, 1), (loopSite 48, 1)])) = true := by
  rcases ho with rfl | ⟨_, _, rfl⟩ <;> kernel_rfl
theorem q0_1 (fr : Nat → Fr) (es : List (Value × Bool × List DV)) (l : List (Int × Int)) (many : Int) (oa : AV) (tk : List (Nat × Nat)) (i : Int) (h1 : decide (i < ((l.length : Nat) : Int)) = false) :
    Ev C9 noO (.code 48 false (loopOf Try.prog 48 0) { σ := fS l i 1, h := (hO 1 2 2 1 fr es l many oa tk false) }) (.code (.exit 0) { σ := slots 47 [], h := (hO 1 2 2 1 fr es l many oa tk false) }) :=
  symM_ev (n := 60) (sc := [(site 48 23, Dec.b false)]) (keep := []) (sc' := []) (by kernel_rfl) (AllP_cons h1 AllP_nil)
theorem q1_1 (fr : Nat → Fr) (es : List (Value × Bool × List DV)) (l : List (Int × Int)) (many : Int) (oa : AV) (ho : OutOK oa) (tk : List (Nat × Nat)) (i i1 : Int) (c : Int × Int) (x : X) (s : St) (h1 : decide (i < ((l.length : Nat) : Int)) = true) (h2 : 0 ≤ i ∧ (rowsP l)[i.toNat]? = some (rowC c)) (h3 : containsSpec [ordP fr 1, .agg (rowC c)] = some [pbool true]) (h4 : wr64 (i + 1) = i1)
    (h5 : Ev C9 noO (.code 48 false (loopOf Try.prog 48 0) { σ := fS l i1 1, h := (hO 1 2 2 1 fr es l many oa tk false) }) (.code x s)) : Ev C9 noO (.code 48 false (loopOf Try.prog 48 0) { σ := fS l i 1, h := (hO 1 2 2 1 fr es l many oa tk false) }) (.code x s) :=
  sym_ev 60 _ [(site 48 23, Dec.b true), (site 48 24, Dec.row (rowC c)), (site 48 28, Dec.prim [pbool true]), (site 48 46, Dec.int i1), (site 48 8002, Dec.trunc [(site 48 6, 1)] [1, 2, 3, 4, 20, 21, 22]), (site 48 8001, Dec.loop [1, 2, 3, 4, 20, 21, 22] x s)] _ [] _ (by kernel_rfl) (AllP_cons h1 (AllP_cons h2 (AllP_cons h3 (AllP_cons h4 (AllP_cons (rfl : true = true) (AllP_cons (f6_1 fr es l many ho tk false) (AllP_cons (rfl : true = true) (AllP_cons h5 AllP_nil))))))))
theorem q2_1 (fr : Nat → Fr) (es : List (Value × Bool × List DV)) (l : List (Int × Int)) (many : Int) (oa : AV) (ho : OutOK oa) (tk : List (Nat × Nat)) (i i1 : Int) (c : Int × Int) (x : X) (s : St) (h1 : decide (i < ((l.length : Nat) : Int)) = true) (h2 : 0 ≤ i ∧ (rowsP l)[i.toNat]? = some (rowC c)) (h3 : containsSpec [ordP fr 1, .agg (rowC c)] = some [pbool false])
    (hc : Ev C9 noO (.call 52 [lA l, blkF 1] (hO 1 2 2 2 (updC fr 1 c i) es l many oa tk false)) (.val (vb true) (hO 1 2 2 2 (updC fr 1 c i) es l many oa tk false))) (h4 : wr64 (i + 1) = i1)
    (h5 : Ev C9 noO (.code 48 false (loopOf Try.prog 48 0) { σ := fS l i1 1, h := (hO 1 2 2 1 fr es l many oa tk false) }) (.code x s)) : Ev C9 noO (.code 48 false (loopOf Try.prog 48 0) { σ := fS l i 1, h := (hO 1 2 2 1 fr es l many oa tk false) }) (.code x s) :=
  sym_ev 60 _ [(site 48 23, Dec.b true), (site 48 24, Dec.row (rowC c)), (site 48 28, Dec.prim [pbool false]), (site 48 32, Dec.call (vb true) (hO 1 2 2 2 (updC fr 1 c i) es l many oa tk false)), (site 48 46, Dec.int i1), (site 48 8002, Dec.trunc [(site 48 6, 1)] [1, 2, 3, 4, 20, 21, 22]), (site 48 8001, Dec.loop [1, 2, 3, 4, 20, 21, 22] x s)] _ [] _ (by kernel_rfl) (AllP_cons h1 (AllP_cons h2 (AllP_cons h3 (AllP_cons hc (AllP_cons h4 (AllP_cons (rfl : true = true) (AllP_cons (f6_1 fr es l many ho tk false) (AllP_cons (rfl : true = true) (AllP_cons h5 AllP_nil)))))))))
theorem q3_1 (fr : Nat → Fr) (es : List (Value × Bool × List DV)) (l : List (Int × Int)) (many : Int) (oa oa1 : AV) (ho1 : OutOK oa1) (tk tk1 : List (Nat × Nat)) (i i1 : Int) (c : Int × Int) (x : X) (s : St) (h1 : decide (i < ((l.length : Nat) : Int)) = true) (h2 : 0 ≤ i ∧ (rowsP l)[i.toNat]? = some (rowC c)) (h3 : containsSpec [ordP fr 1, .agg (rowC c)] = some [pbool false])
    (hc : Ev C9 noO (.call 52 [lA l, blkF 1] (hO 1 2 2 2 (updC fr 1 c i) es l many oa tk false)) (.val (vb false) (hO 1 2 2 2 (updC fr 1 c i) es l many oa tk false))) (hf : false = false ∧ fitsP ((fr 1).r).length 1 16)
    (he : Ev C9 noO (.call 48 (args48 2) (hO 2 3 2 2 (updO fr 1 c i ((fr 1).r ++ [rowC c])) es l many oa tk false)) (.val unitA (hO 2 3 2 2 (updO fr 1 c i ((fr 1).r ++ [rowC c])) es l many oa1 tk1 false))) (h4 : wr64 (i + 1) = i1)
    (h5 : Ev C9 noO (.code 48 false (loopOf Try.prog 48 0) { σ := fS l i1 1, h := (hO 1 2 2 1 fr es l many oa1 tk1 false) }) (.code x s)) : Ev C9 noO (.code 48 false (loopOf Try.prog 48 0) { σ := fS l i 1, h := (hO 1 2 2 1 fr es l many oa tk false) }) (.code x s) :=
  sym_ev 60 _ [(site 48 23, Dec.b true), (site 48 24, Dec.row (rowC c)), (site 48 28, Dec.prim [pbool false]), (site 48 32, Dec.call (vb false) (hO 1 2 2 2 (updC fr 1 c i) es l many oa tk false)), (site 48 39, Dec.app false), (site 48 8003, Dec.rng [1, 2, 3, 4, 20, 21, 22, 40] unitA (hO 2 3 2 2 (updO fr 1 c i ((fr 1).r ++ [rowC c])) es l many oa1 tk1 false)), (site 48 46, Dec.int i1), (site 48 8002, Dec.trunc [(site 40 3, 2), (site 40 4, 2), (site 40 5, 2), (site 48 6, 1), (loopSite 48, 1)] [1, 2, 3, 4, 20, 21, 22]), (site 48 8001, Dec.loop [1, 2, 3, 4, 20, 21, 22] x s)] _ [] _ (by kernel_rfl) (AllP_cons h1 (AllP_cons h2 (AllP_cons h3 (AllP_cons hc (AllP_cons hf (AllP_cons he (AllP_cons h4 (AllP_cons (rfl : true = true) (AllP_cons (f5_1 fr es l many ho1 tk1 false) (AllP_cons (rfl : true = true) (AllP_cons h5 AllP_nil)))))))))))
theorem q4_1 (fr : Nat → Fr) (es : List (Value × Bool × List DV)) (l : List (Int × Int)) (many : Int) (oa oa1 : AV) (ho1 : OutOK oa1) (tk tk1 : List (Nat × Nat)) (i i1 : Int) (c : Int × Int) (x : X) (s : St) (h1 : decide (i < ((l.length : Nat) : Int)) = true) (h2 : 0 ≤ i ∧ (rowsP l)[i.toNat]? = some (rowC c)) (h3 : containsSpec [ordP fr 1, .agg (rowC c)] = some [pbool false])
    (hc : Ev C9 noO (.call 52 [lA l, blkF 1] (hO 1 2 2 2 (updC fr 1 c i) es l many oa tk false)) (.val (vb false) (hO 1 2 2 2 (updC fr 1 c i) es l many oa tk false))) (hf : false = false ∧ fitsP ((fr 1).r).length 1 16)
    (he : Ev C9 noO (.call 48 (args48 2) (hO 2 3 2 2 (updO fr 1 c i ((fr 1).r ++ [rowC c])) es l many oa tk false)) (.val unitA (hO 2 3 2 2 (updO fr 1 c i ((fr 1).r ++ [rowC c])) es l many oa1 tk1 true))) : Ev C9 noO (.code 48 false (loopOf Try.prog 48 0) { σ := fS l i 1, h := (hO 1 2 2 1 fr es l many oa tk false) }) (.code .ret { σ := slots 47 [], h := (hO 1 2 2 1 fr es l many oa1 tk1 true) }) :=
  symT_ev (n := 60) (sc := [(site 48 23, Dec.b true), (site 48 24, Dec.row (rowC c)), (site 48 28, Dec.prim [pbool false]), (site 48 32, Dec.call (vb false) (hO 1 2 2 2 (updC fr 1 c i) es l many oa tk false)), (site 48 39, Dec.app false), (site 48 8003, Dec.rng [1, 2, 3, 4, 20, 21, 22, 40] unitA (hO 2 3 2 2 (updO fr 1 c i ((fr 1).r ++ [rowC c])) es l many oa1 tk1 true))]) (keep := []) (L := [(site 40 3, 2), (site 40 4, 2), (site 40 5, 2), (site 48 6, 1), (loopSite 48, 1)]) (sc' := []) (by kernel_rfl) (AllP_cons h1 (AllP_cons h2 (AllP_cons h3 (AllP_cons hc (AllP_cons hf (AllP_cons he (AllP_cons (rfl : true = true) (AllP_cons (f5_1 fr es l many ho1 tk1 true) (AllP_cons (rfl : true = true) AllP_nil)))))))))
theorem f1_1 (fr : Nat → Fr) (es : List (Value × Bool × List DV)) (l : List (Int × Int)) (many : Int) {oa : AV} (ho : OutOK oa) (tk : List (Nat × Nat)) : ((hO 1 2 2 2 fr es l many oa tk false).objs.all fun e => e.2.2.all (objFreeT [(site 51 4, 0)])) = true := by
  rcases ho with rfl | ⟨_, _, rfl⟩ <;> kernel_rfl
theorem r0_1 (fr : Nat → Fr) (es : List (Value × Bool × List DV)) (l : List (Int × Int)) (many : Int) (oa : AV) (tk : List (Nat × Nat)) (i : Int) (h1 : decide (i < ((l.length : Nat) : Int)) = false) :
    Ev C9 noO (.code 66 false (loopOf Try.prog 66 0) { σ := slots 19 [(0, lA l), (1, blkF 1), (7, vi ((l.length : Nat) : Int)), (8, vi i)], h := (hO 1 2 2 2 fr es l many oa tk false) }) (.code (.exit 0) { σ := slots 19 [], h := (hO 1 2 2 2 fr es l many oa tk false) }) :=
  symM_ev (n := 60) (sc := [(site 66 9, Dec.b false)]) (keep := []) (sc' := []) (by kernel_rfl) (AllP_cons h1 AllP_nil)
theorem r1_1 (fr : Nat → Fr) (es : List (Value × Bool × List DV)) (l : List (Int × Int)) (many : Int) (oa : AV) (tk : List (Nat × Nat)) (i i1 : Int) (y : Int × Int) (ho : OutOK oa) (x : X) (s : St) (h1 : decide (i < ((l.length : Nat) : Int)) = true) (h2 : 0 ≤ i ∧ (rowsP l)[i.toNat]? = some (rowC y)) (h3 : containsSpec [ordP fr 1, .agg (rowC y)] = some [pbool true]) (h4 : wr64 (i + 1) = i1)
    (h5 : Ev C9 noO (.code 66 false (loopOf Try.prog 66 0) { σ := slots 19 [(0, lA l), (1, blkF 1), (7, vi ((l.length : Nat) : Int)), (8, vi i1)], h := (hO 1 2 2 2 fr es l many oa tk false) }) (.code x s)) : Ev C9 noO (.code 66 false (loopOf Try.prog 66 0) { σ := slots 19 [(0, lA l), (1, blkF 1), (7, vi ((l.length : Nat) : Int)), (8, vi i)], h := (hO 1 2 2 2 fr es l many oa tk false) }) (.code x s) :=
  sym_ev 60 _ [(site 66 9, Dec.b true), (site 66 14, Dec.row (rowC y)), (site 51 8, Dec.prim [pbool true]), (site 66 18, Dec.int i1), (site 66 8002, Dec.trunc [(site 51 4, 0)] [0, 1, 7, 8]), (site 66 8001, Dec.loop [0, 1, 7, 8] x s)] _ [] _ (by kernel_rfl) (AllP_cons h1 (AllP_cons h2 (AllP_cons h3 (AllP_cons h4 (AllP_cons (rfl : true = true) (AllP_cons (f1_1 fr es l many ho tk) (AllP_cons (rfl : true = true) (AllP_cons h5 AllP_nil))))))))
theorem r2_1 (fr : Nat → Fr) (es : List (Value × Bool × List DV)) (l : List (Int × Int)) (many : Int) (oa : AV) (tk : List (Nat × Nat)) (i i1 : Int) (y : Int × Int) (ho : OutOK oa) (x : X) (s : St) (h1 : decide (i < ((l.length : Nat) : Int)) = true) (h2 : 0 ≤ i ∧ (rowsP l)[i.toNat]? = some (rowC y)) (h3 : containsSpec [ordP fr 1, .agg (rowC y)] = some [pbool false]) (u v : Int × Int) (h4 : lookupIn C9 59 es (.agg [vi y.1, vi y.2]) false = some (.agg [vi u.1, vi u.2])) (h5 : lookupIn C9 59 es (.agg [vi (fr 1).c.1, vi (fr 1).c.2]) false = some (.agg [vi v.1, vi v.2])) (h6 : aheadSpec [.agg (rowC u), .agg (rowC v)] = some [pbool false]) (h7 : wr64 (i + 1) = i1)
    (h8 : Ev C9 noO (.code 66 false (loopOf Try.prog 66 0) { σ := slots 19 [(0, lA l), (1, blkF 1), (7, vi ((l.length : Nat) : Int)), (8, vi i1)], h := (hO 1 2 2 2 fr es l many oa tk false) }) (.code x s)) : Ev C9 noO (.code 66 false (loopOf Try.prog 66 0) { σ := slots 19 [(0, lA l), (1, blkF 1), (7, vi ((l.length : Nat) : Int)), (8, vi i)], h := (hO 1 2 2 2 fr es l many oa tk false) }) (.code x s) :=
  sym_ev 60 _ [(site 66 9, Dec.b true), (site 66 14, Dec.row (rowC y)), (site 51 8, Dec.prim [pbool false]), (site 51 13, Dec.look (.agg [vi u.1, vi u.2])), (site 51 16, Dec.look (.agg [vi v.1, vi v.2])), (site 51 17, Dec.prim [pbool false]), (site 66 18, Dec.int i1), (site 66 8002, Dec.trunc [(site 51 4, 0)] [0, 1, 7, 8]), (site 66 8001, Dec.loop [0, 1, 7, 8] x s)] _ [] _ (by kernel_rfl) (AllP_cons h1 (AllP_cons h2 (AllP_cons h3 (AllP_cons h4 (AllP_cons h5 (AllP_cons h6 (AllP_cons h7 (AllP_cons (rfl : true = true) (AllP_cons (f1_1 fr es l many ho tk) (AllP_cons (rfl : true = true) (AllP_cons h8 AllP_nil)))))))))))
theorem r3_1 (fr : Nat → Fr) (es : List (Value × Bool × List DV)) (l : List (Int × Int)) (many : Int) (oa : AV) (tk : List (Nat × Nat)) (i i1 : Int) (y : Int × Int) (ho : OutOK oa) (h1 : decide (i < ((l.length : Nat) : Int)) = true) (h2 : 0 ≤ i ∧ (rowsP l)[i.toNat]? = some (rowC y)) (h3 : containsSpec [ordP fr 1, .agg (rowC y)] = some [pbool false]) (u v : Int × Int) (h4 : lookupIn C9 59 es (.agg [vi y.1, vi y.2]) false = some (.agg [vi u.1, vi u.2])) (h5 : lookupIn C9 59 es (.agg [vi (fr 1).c.1, vi (fr 1).c.2]) false = some (.agg [vi v.1, vi v.2])) (h6 : aheadSpec [.agg (rowC u), .agg (rowC v)] = some [pbool true]) :
    Ev C9 noO (.code 66 false (loopOf Try.prog 66 0) { σ := slots 19 [(0, lA l), (1, blkF 1), (7, vi ((l.length : Nat) : Int)), (8, vi i)], h := (hO 1 2 2 2 fr es l many oa tk false) }) (.code .ret { σ := slots 19 [(4, vi i)], h := (hO 1 2 2 2 fr es l many oa tk false) }) :=
  symT_ev (n := 60) (sc := [(site 66 9, Dec.b true), (site 66 14, Dec.row (rowC y)), (site 51 8, Dec.prim [pbool false]), (site 51 13, Dec.look (.agg [vi u.1, vi u.2])), (site 51 16, Dec.look (.agg [vi v.1, vi v.2])), (site 51 17, Dec.prim [pbool true])]) (keep := [4]) (L := [(site 51 4, 0)]) (sc' := []) (by kernel_rfl) (AllP_cons h1 (AllP_cons h2 (AllP_cons h3 (AllP_cons h4 (AllP_cons h5 (AllP_cons h6 (AllP_cons (rfl : true = true) (AllP_cons (f1_1 fr es l many ho tk) (AllP_cons (rfl : true = true) AllP_nil)))))))))
theorem cf_n_1 (fr : Nat → Fr) (es : List (Value × Bool × List DV)) (l : List (Int × Int)) (many : Int) (oa : AV) (tk : List (Nat × Nat)) (h1 : ((rowsP l).length : Int) = ((l.length : Nat) : Int)) (h : Ev C9 noO (.code 66 false (loopOf Try.prog 66 0) { σ := slots 19 [(0, lA l), (1, blkF 1), (7, vi ((l.length : Nat) : Int)), (8, vi 0)], h := (hO 1 2 2 2 fr es l many oa tk false) }) (.code (.exit 0) { σ := slots 19 [], h := (hO 1 2 2 2 fr es l many oa tk false) })) :
    Ev C9 noO (.call 52 [lA l, blkF 1] (hO 1 2 2 2 fr es l many oa tk false)) (.val (vb false) (hO 1 2 2 2 fr es l many oa tk false)) :=
  sym_ev 60 _ [(site 66 7, Dec.int ((l.length : Nat) : Int)), (site 66 8001, Dec.loop [0, 1, 7, 8] (.exit 0) { σ := slots 19 [], h := (hO 1 2 2 2 fr es l many oa tk false) })] _ [] _ (by kernel_rfl) (AllP_cons h1 (AllP_cons h AllP_nil))
theorem cf_y_1 (fr : Nat → Fr) (es : List (Value × Bool × List DV)) (l : List (Int × Int)) (many : Int) (oa : AV) (tk : List (Nat × Nat)) (i : Int) (h1 : ((rowsP l).length : Int) = ((l.length : Nat) : Int)) (h : Ev C9 noO (.code 66 false (loopOf Try.prog 66 0) { σ := slots 19 [(0, lA l), (1, blkF 1), (7, vi ((l.length : Nat) : Int)), (8, vi 0)], h := (hO 1 2 2 2 fr es l many oa tk false) }) (.code .ret { σ := slots 19 [(4, vi i)], h := (hO 1 2 2 2 fr es l many oa tk false) })) (h0 : decide (i ≥ 0) = true) :
    Ev C9 noO (.call 52 [lA l, blkF 1] (hO 1 2 2 2 fr es l many oa tk false)) (.val (vb true) (hO 1 2 2 2 fr es l many oa tk false)) :=
  sym_ev 60 _ [(site 66 7, Dec.int ((l.length : Nat) : Int)), (site 66 8001, Dec.loop [0, 1, 7, 8] .ret { σ := slots 19 [(4, vi i)], h := (hO 1 2 2 2 fr es l many oa tk false) }), (site 52 8, Dec.b true)] _ [] _ (by kernel_rfl) (AllP_cons h1 (AllP_cons h (AllP_cons h0 AllP_nil)))
theorem f4_1 (fr : Nat → Fr) (es : List (Value × Bool × List DV)) (l : List (Int × Int)) (many : Int) {oa : AV} (ho : OutOK oa) (tk : List (Nat × Nat)) (brk : Bool) : ((hO 1 2 1 1 fr es l many oa tk brk).objs.all fun e => e.2.2.all (objFreeT [(site 48 4, 1)])) = true := by
  rcases ho with rfl | ⟨_, _, rfl⟩ <;> kernel_rfl
theorem pne_1 (fr : Nat → Fr) (es : List (Value × Bool × List DV)) (l : List (Int × Int)) (many : Int) (oa : AV) (tk : List (Nat × Nat)) (k : Int) (hf : fitsSpec [.one (.mp es), ordP fr 1] = some [pint k]) (h0 : (k == 0) = false) (oa1 : AV) (ho1 : OutOK oa1) (tk1 : List (Nat × Nat)) (h21 : ((rowsP l).length : Int) = ((l.length : Nat) : Int))
    (hl : Ev C9 noO (.code 48 false (loopOf Try.prog 48 0) { σ := fS l 0 1, h := (hO 1 2 2 1 fr es l many oa tk false) }) (.code (.exit 0) { σ := slots 47 [], h := (hO 1 2 2 1 fr es l many oa1 tk1 false) })) : Ev C9 noO (.call 48 (args48 1) (hO 1 2 1 1 fr es l many oa tk false)) (.val unitA (hO 1 2 1 1 fr es l many oa1 tk1 false)) :=
  symCT_ev (n := 200) (sc := [(site 48 11, Dec.prim [pint k]), (site 48 12, Dec.b false), (site 48 21, Dec.int ((l.length : Nat) : Int)), (site 48 8001, Dec.loop [1, 2, 3, 4, 20, 21, 22] (.exit 0) { σ := slots 47 [], h := (hO 1 2 2 1 fr es l many oa1 tk1 false) })]) (keep := []) (L := [(site 48 4, 1)]) (sc' := []) (by kernel_rfl) (AllP_cons hf (AllP_cons h0 (AllP_cons h21 (AllP_cons hl (AllP_cons (rfl : true = true) (AllP_cons (f4_1 fr es l many ho1 tk1 false) (AllP_cons (rfl : true = true) AllP_nil)))))))
theorem pnr_1 (fr : Nat → Fr) (es : List (Value × Bool × List DV)) (l : List (Int × Int)) (many : Int) (oa : AV) (tk : List (Nat × Nat)) (k : Int) (hf : fitsSpec [.one (.mp es), ordP fr 1] = some [pint k]) (h0 : (k == 0) = false) (oa1 : AV) (ho1 : OutOK oa1) (tk1 : List (Nat × Nat)) (h21 : ((rowsP l).length : Int) = ((l.length : Nat) : Int))
    (hl : Ev C9 noO (.code 48 false (loopOf Try.prog 48 0) { σ := fS l 0 1, h := (hO 1 2 2 1 fr es l many oa tk false) }) (.code .ret { σ := slots 47 [], h := (hO 1 2 2 1 fr es l many oa1 tk1 true) })) : Ev C9 noO (.call 48 (args48 1) (hO 1 2 1 1 fr es l many oa tk false)) (.val unitA (hO 1 2 1 1 fr es l many oa1 tk1 true)) :=
  symCT_ev (n := 200) (sc := [(site 48 11, Dec.prim [pint k]), (site 48 12, Dec.b false), (site 48 21, Dec.int ((l.length : Nat) : Int)), (site 48 8001, Dec.loop [1, 2, 3, 4, 20, 21, 22] .ret { σ := slots 47 [], h := (hO 1 2 2 1 fr es l many oa1 tk1 true) })]) (keep := []) (L := [(site 48 4, 1)]) (sc' := []) (by kernel_rfl) (AllP_cons hf (AllP_cons h0 (AllP_cons h21 (AllP_cons hl (AllP_cons (rfl : true = true) (AllP_cons (f4_1 fr es l many ho1 tk1 true) (AllP_cons (rfl : true = true) AllP_nil)))))))
theorem py0e_1 (fr : Nat → Fr) (es : List (Value × Bool × List DV)) (l : List (Int × Int)) (many : Int) (hf : fitsSpec [.one (.mp es), ordP fr 1] = some [pint 0]) (hcl : cloneSpec [ordP fr 1] = some [ordP fr 1]) (h52 : ((0 : Int) == many) = false) (oa1 : AV) (ho1 : OutOK oa1) (tk1 : List (Nat × Nat)) (h21 : ((rowsP l).length : Int) = ((l.length : Nat) : Int))
    (hl : Ev C9 noO (.code 48 false (loopOf Try.prog 48 0) { σ := fS l 0 1, h := (hO 1 2 2 1 fr es l many (.st 1 [[(.sl 2 false (fr 1).r)]] (site 24 56) 1) [(site 24 56, 1)] false) }) (.code (.exit 0) { σ := slots 47 [], h := (hO 1 2 2 1 fr es l many oa1 tk1 false) })) : Ev C9 noO (.call 48 (args48 1) (hO 1 2 1 1 fr es l many (.d (.v (.slice none 0 0))) [] false)) (.val unitA (hO 1 2 1 1 fr es l many oa1 tk1 false)) :=
  symCT_ev (n := 200) (sc := [(site 48 11, Dec.prim [pint 0]), (site 48 16, Dec.prim [ordP fr 1]), (site 24 52, Dec.b false), (site 48 21, Dec.int ((l.length : Nat) : Int)), (site 48 8001, Dec.loop [1, 2, 3, 4, 20, 21, 22] (.exit 0) { σ := slots 47 [], h := (hO 1 2 2 1 fr es l many oa1 tk1 false) })]) (keep := []) (L := [(site 48 4, 1)]) (sc' := []) (by kernel_rfl) (AllP_cons hf (AllP_cons hcl (AllP_cons h52 (AllP_cons h21 (AllP_cons hl (AllP_cons (rfl : true = true) (AllP_cons (f4_1 fr es l many ho1 tk1 false) (AllP_cons (rfl : true = true) AllP_nil))))))))
theorem py0r_1 (fr : Nat → Fr) (es : List (Value × Bool × List DV)) (l : List (Int × Int)) (many : Int) (hf : fitsSpec [.one (.mp es), ordP fr 1] = some [pint 0]) (hcl : cloneSpec [ordP fr 1] = some [ordP fr 1]) (h52 : ((0 : Int) == many) = false) (oa1 : AV) (ho1 : OutOK oa1) (tk1 : List (Nat × Nat)) (h21 : ((rowsP l).length : Int) = ((l.length : Nat) : Int))
    (hl : Ev C9 noO (.code 48 false (loopOf Try.prog 48 0) { σ := fS l 0 1, h := (hO 1 2 2 1 fr es l many (.st 1 [[(.sl 2 false (fr 1).r)]] (site 24 56) 1) [(site 24 56, 1)] false) }) (.code .ret { σ := slots 47 [], h := (hO 1 2 2 1 fr es l many oa1 tk1 true) })) : Ev C9 noO (.call 48 (args48 1) (hO 1 2 1 1 fr es l many (.d (.v (.slice none 0 0))) [] false)) (.val unitA (hO 1 2 1 1 fr es l many oa1 tk1 true)) :=
  symCT_ev (n := 200) (sc := [(site 48 11, Dec.prim [pint 0]), (site 48 16, Dec.prim [ordP fr 1]), (site 24 52, Dec.b false), (site 48 21, Dec.int ((l.length : Nat) : Int)), (site 48 8001, Dec.loop [1, 2, 3, 4, 20, 21, 22] .ret { σ := slots 47 [], h := (hO 1 2 2 1 fr es l many oa1 tk1 true) })]) (keep := []) (L := [(site 48 4, 1)]) (sc' := []) (by kernel_rfl) (AllP_cons hf (AllP_cons hcl (AllP_cons h52 (AllP_cons h21 (AllP_cons hl (AllP_cons (rfl : true = true) (AllP_cons (f4_1 fr es l many ho1 tk1 true) (AllP_cons (rfl : true = true) AllP_nil))))))))
theorem py1e_1 (fr : Nat → Fr) (es : List (Value × Bool × List DV)) (l : List (Int × Int)) (many : Int) (rows : List (List DV)) (g : Nat) (n : Int) (hf : fitsSpec [.one (.mp es), ordP fr 1] = some [pint 0]) (hcl : cloneSpec [ordP fr 1] = some [ordP fr 1]) (hn : (rows.length : Int) = n) (h52 : (n == many) = false) (hfp : false = false ∧ g = g ∧ fitsP rows.length 1 24) (oa1 : AV) (ho1 : OutOK oa1) (tk1 : List (Nat × Nat)) (h21 : ((rowsP l).length : Int) = ((l.length : Nat) : Int))
    (hl : Ev C9 noO (.code 48 false (loopOf Try.prog 48 0) { σ := fS l 0 1, h := (hO 1 2 2 1 fr es l many (.st 1 (rows ++ [[(.sl 2 false (fr 1).r)]]) (site 24 56) (g + 1 + 1)) [(site 24 56, g + 1 + 1)] false) }) (.code (.exit 0) { σ := slots 47 [], h := (hO 1 2 2 1 fr es l many oa1 tk1 false) })) : Ev C9 noO (.call 48 (args48 1) (hO 1 2 1 1 fr es l many (.st 1 rows (site 24 56) g) [(site 24 56, g)] false)) (.val unitA (hO 1 2 1 1 fr es l many oa1 tk1 false)) :=
  symCT_ev (n := 200) (sc := [(site 48 11, Dec.prim [pint 0]), (site 48 16, Dec.prim [ordP fr 1]), (site 24 50, Dec.int n), (site 24 52, Dec.b false), (site 24 56, Dec.app false), (site 48 21, Dec.int ((l.length : Nat) : Int)), (site 48 8001, Dec.loop [1, 2, 3, 4, 20, 21, 22] (.exit 0) { σ := slots 47 [], h := (hO 1 2 2 1 fr es l many oa1 tk1 false) })]) (keep := []) (L := [(site 48 4, 1)]) (sc' := []) (by kernel_rfl) (AllP_cons hf (AllP_cons hcl (AllP_cons hn (AllP_cons h52 (AllP_cons hfp (AllP_cons h21 (AllP_cons hl (AllP_cons (rfl : true = true) (AllP_cons (f4_1 fr es l many ho1 tk1 false) (AllP_cons (rfl : true = true) AllP_nil))))))))))
theorem py1r_1 (fr : Nat → Fr) (es : List (Value × Bool × List DV)) (l : List (Int × Int)) (many : Int) (rows : List (List DV)) (g : Nat) (n : Int) (hf : fitsSpec [.one (.mp es), ordP fr 1] = some [pint 0]) (hcl : cloneSpec [ordP fr 1] = some [ordP fr 1]) (hn : (rows.length : Int) = n) (h52 : (n == many) = false) (hfp : false = false ∧ g = g ∧ fitsP rows.length 1 24) (oa1 : AV) (ho1 : OutOK oa1) (tk1 : List (Nat × Nat)) (h21 : ((rowsP l).length : Int) = ((l.length : Nat) : Int))
    (hl : Ev C9 noO (.code 48 false (loopOf Try.prog 48 0) { σ := fS l 0 1, h := (hO 1 2 2 1 fr es l many (.st 1 (rows ++ [[(.sl 2 false (fr 1).r)]]) (site 24 56) (g + 1 + 1)) [(site 24 56, g + 1 + 1)] false) }) (.code .ret { σ := slots 47 [], h := (hO 1 2 2 1 fr es l many oa1 tk1 true) })) : Ev C9 noO (.call 48 (args48 1) (hO 1 2 1 1 fr es l many (.st 1 rows (site 24 56) g) [(site 24 56, g)] false)) (.val unitA (hO 1 2 1 1 fr es l many oa1 tk1 true)) :=
  symCT_ev (n := 200) (sc := [(site 48 11, Dec.prim [pint 0]), (site 48 16, Dec.prim [ordP fr 1]), (site 24 50, Dec.int n), (site 24 52, Dec.b false), (site 24 56, Dec.app false), (site 48 21, Dec.int ((l.length : Nat) : Int)), (site 48 8001, Dec.loop [1, 2, 3, 4, 20, 21, 22] .ret { σ := slots 47 [], h := (hO 1 2 2 1 fr es l many oa1 tk1 true) })]) (keep := []) (L := [(site 48 4, 1)]) (sc' := []) (by kernel_rfl) (AllP_cons hf (AllP_cons hcl (AllP_cons hn (AllP_cons h52 (AllP_cons hfp (AllP_cons h21 (AllP_cons hl (AllP_cons (rfl : true = true) (AllP_cons (f4_1 fr es l many ho1 tk1 true) (AllP_cons (rfl : true = true) AllP_nil))))))))))
theorem pb0_1 (fr : Nat → Fr) (es : List (Value × Bool × List DV)) (l : List (Int × Int)) (many : Int) (hf : fitsSpec [.one (.mp es), ordP fr 1] = some [pint 0]) (hcl : cloneSpec [ordP fr 1] = some [ordP fr 1]) (h52 : ((0 : Int) == many) = true) : Ev C9 noO (.call 48 (args48 1) (hO 1 2 1 1 fr es l many (.d (.v (.slice none 0 0))) [] false)) (.val unitA (hO 1 2 1 1 fr es l many (.d (.v (.slice none 0 0))) [] true)) :=
  symCT_ev (n := 200) (sc := [(site 48 11, Dec.prim [pint 0]), (site 48 16, Dec.prim [ordP fr 1]), (site 24 52, Dec.b true)]) (keep := []) (L := [(site 48 4, 1)]) (sc' := []) (by kernel_rfl) (AllP_cons hf (AllP_cons hcl (AllP_cons h52 (AllP_cons (rfl : true = true) (AllP_cons (rfl : true = true) (AllP_cons (rfl : true = true) AllP_nil))))))
theorem pb1_1 (fr : Nat → Fr) (es : List (Value × Bool × List DV)) (l : List (Int × Int)) (many : Int) (rows : List (List DV)) (g : Nat) (n : Int) (hf : fitsSpec [.one (.mp es), ordP fr 1] = some [pint 0]) (hcl : cloneSpec [ordP fr 1] = some [ordP fr 1]) (hn : (rows.length : Int) = n) (h52 : (n == many) = true) : Ev C9 noO (.call 48 (args48 1) (hO 1 2 1 1 fr es l many (.st 1 rows (site 24 56) g) [(site 24 56, g)] false)) (.val unitA (hO 1 2 1 1 fr es l many (.st 1 rows (site 24 56) g) [(site 24 56, g)] true)) :=
  symCT_ev (n := 200) (sc := [(site 48 11, Dec.prim [pint 0]), (site 48 16, Dec.prim [ordP fr 1]), (site 24 50, Dec.int n), (site 24 52, Dec.b true)]) (keep := []) (L := [(site 48 4, 1)]) (sc' := []) (by kernel_rfl) (AllP_cons hf (AllP_cons hcl (AllP_cons hn (AllP_cons h52 (AllP_cons (rfl : true = true) (AllP_cons (rfl : true = true) (AllP_cons (rfl : true = true) AllP_nil)))))))

end Go.Ev

namespace Go.Ev
open Go Go.RowKit Go.Proofs

theorem f6_2 (fr : Nat → Fr) (es : List (Value × Bool × List DV)) (l : List (Int × Int)) (many : Int) {oa : AV} (ho : OutOK oa) (tk : List (Nat × Nat)) (brk : Bool) : ((hO 2 3 3 2 fr es l many oa tk brk).objs.all fun e => e.2.2.all (objFreeT [(site 48 6, 2)])) = true := by
  rcases ho with rfl | ⟨_, _, rfl⟩ <;> kernel_rfl
theorem f5_2 (fr : Nat → Fr) (es : List (Value × Bool × List DV)) (l : List (Int × Int)) (many : Int) {oa : AV} (ho : OutOK oa) (tk : List (Nat × Nat)) (brk : Bool) : ((hO 2 3 3 2 fr es l many oa tk brk).objs.all fun e => e.2.2.all (objFreeT [(site 40 3, 3), (site 40 4, 3), (site 40 5, 3), (site 48 6, 2), (loopSite 48, 2)])) = true := by
  rcases ho with rfl | ⟨_, _, rfl⟩ <;> kernel_rfl
theorem q0_2 (fr : Nat → Fr) (es : List (Value × Bool × List DV)) (l : List (Int × Int)) (many : Int) (oa : AV) (tk : List (Nat × Nat)) (i : Int) (h1 : decide (i < ((l.length : Nat) : Int)) = false) :
    Ev C9 noO (.code 48 false (loopOf Try.prog 48 0) { σ := fS l i 2, h := (hO 2 3 3 2 fr es l many oa tk false) }) (.code (.exit 0) { σ := slots 47 [], h := (hO 2 3 3 2 fr es l many oa tk false) }) :=
  symM_ev (n := 60) (sc := [(site 48 23, Dec.b false)]) (keep := []) (sc' := []) (by kernel_rfl) (AllP_cons h1 AllP_nil)
theorem q1_2 (fr : Nat → Fr) (es : List (Value × Bool × List DV)) (l : List (Int × Int)) (many : Int) (oa : AV) (ho : OutOK oa) (tk : List (Nat × Nat)) (i i1 : Int) (c : Int × Int) (x : X) (s : St) (h1 : decide (i < ((l.length : Nat) : Int)) = true) (h2 : 0 ≤ i ∧ (rowsP l)[i.toNat]? = some (rowC c)) (h3 : containsSpec [ordP fr 2, .agg (rowC c)] = some [pbool true]) (h4 : wr64 (i + 1) = i1)
    (h5 : Ev C9 noO (.code 48 false (loopOf Try.prog 48 0) { σ := fS l i1 2, h := (hO 2 3 3 2 fr es l many oa tk false) }) (.code x s)) : Ev C9 noO (.code 48 false (loopOf Try.prog 48 0) { σ := fS l i 2, h := (hO 2 3 3 2 fr es l many oa tk false) }) (.code x s) :=
  sym_ev 60 _ [(site 48 23, Dec.b true), (site 48 24, Dec.row (rowC c)), (site 48 28, Dec.prim [pbool true]), (site 48 46, Dec.int i1), (site 48 8002, Dec.trunc [(site 48 6, 2)] [1, 2, 3, 4, 20, 21, 22]), (site 48 8001, Dec.loop [1, 2, 3, 4, 20, 21, 22] x s)] _ [] _ (by kernel_rfl) (AllP_cons h1 (AllP_cons h2 (AllP_cons h3 (AllP_cons h4 (AllP_cons (rfl : true = true) (AllP_cons (f6_2 fr es l many ho tk false) (AllP_cons (rfl : true = true) (AllP_cons h5 AllP_nil))))))))
theorem q2_2 (fr : Nat → Fr) (es : List (Value × Bool × List DV)) (l : List (Int × Int)) (many : Int) (oa : AV) (ho : OutOK oa) (tk : List (Nat × Nat)) (i i1 : Int) (c : Int × Int) (x : X) (s : St) (h1 : decide (i < ((l.length : Nat) : Int)) = true) (h2 : 0 ≤ i ∧ (rowsP l)[i.toNat]? = some (rowC c)) (h3 : containsSpec [ordP fr 2, .agg (rowC c)] = some [pbool false])
    (hc : Ev C9 noO (.call 52 [lA l, blkF 2] (hO 2 3 3 3 (updC fr 2 c i) es l many oa tk false)) (.val (vb true) (hO 2 3 3 3 (updC fr 2 c i) es l many oa tk false))) (h4 : wr64 (i + 1) = i1)
    (h5 : Ev C9 noO (.code 48 false (loopOf Try.prog 48 0) { σ := fS l i1 2, h := (hO 2 3 3 2 fr es l many oa tk false) }) (.code x s)) : Ev C9 noO (.code 48 false (loopOf Try.prog 48 0) { σ := fS l i 2, h := (hO 2 3 3 2 fr es l many oa tk false) }) (.code x s) :=
  sym_ev 60 _ [(site 48 23, Dec.b true), (site 48 24, Dec.row (rowC c)), (site 48 28, Dec.prim [pbool false]), (site 48 32, Dec.call (vb true) (hO 2 3 3 3 (updC fr 2 c i) es l many oa tk false)), (site 48 46, Dec.int i1), (site 48 8002, Dec.trunc [(site 48 6, 2)] [1, 2, 3, 4, 20, 21, 22]), (site 48 8001, Dec.loop [1, 2, 3, 4, 20, 21, 22] x s)] _ [] _ (by kernel_rfl) (AllP_cons h1 (AllP_cons h2 (AllP_cons h3 (AllP_cons hc (AllP_cons h4 (AllP_cons (rfl : true = true) (AllP_cons (f6_2 fr es l many ho tk false) (AllP_cons (rfl : true = true) (AllP_cons h5 AllP_nil)))))))))
theorem q3_2 (fr : Nat → Fr) (es : List (Value × Bool × List DV)) (l : List (Int × Int)) (many : Int) (oa oa1 : AV) (ho1 : OutOK oa1) (tk tk1 : List (Nat × Nat)) (i i1 : Int) (c : Int × Int) (x : X) (s : St) (h1 : decide (i < ((l.length : Nat) : Int)) = true) (h2 : 0 ≤ i ∧ (rowsP l)[i.toNat]? = some (rowC c)) (h3 : containsSpec [ordP fr 2, .agg (rowC c)] = some [pbool false])
    (hc : Ev C9 noO (.call 52 [lA l, blkF 2] (hO 2 3 3 3 (updC fr 2 c i) es l many oa tk false)) (.val (vb false) (hO 2 3 3 3 (updC fr 2 c i) es l many oa tk false))) (hf : false = false ∧ fitsP ((fr 2).r).length 1 16)
    (he : Ev C9 noO (.call 48 (args48 3) (hO 3 4 3 3 (updO fr 2 c i ((fr 2).r ++ [rowC c])) es l many oa tk false)) (.val unitA (hO 3 4 3 3 (updO fr 2 c i ((fr 2).r ++ [rowC c])) es l many oa1 tk1 false))) (h4 : wr64 (i + 1) = i1)
    (h5 : Ev C9 noO (.code 48 false (loopOf Try.prog 48 0) { σ := fS l i1 2, h := (hO 2 3 3 2 fr es l many oa1 tk1 false) }) (.code x s)) : Ev C9 noO (.code 48 false (loopOf Try.prog 48 0) { σ := fS l i 2, h := (hO 2 3 3 2 fr es l many oa tk false) }) (.code x s) :=
  sym_ev 60 _ [(site 48 23, Dec.b true), (site 48 24, Dec.row (rowC c)), (site 48 28, Dec.prim [pbool false]), (site 48 32, Dec.call (vb false) (hO 2 3 3 3 (updC fr 2 c i) es l many oa tk false)), (site 48 39, Dec.app false), (site 48 8003, Dec.rng [1, 2, 3, 4, 20, 21, 22, 40] unitA (hO 3 4 3 3 (updO fr 2 c i ((fr 2).r ++ [rowC c])) es l many oa1 tk1 false)), (site 48 46, Dec.int i1), (site 48 8002, Dec.trunc [(site 40 3, 3), (site 40 4, 3), (site 40 5, 3), (site 48 6, 2), (loopSite 48, 2)] [1, 2, 3, 4, 20, 21, 22]), (site 48 8001, Dec.loop [1, 2, 3, 4, 20, 21, 22] x s)] _ [] _ (by kernel_rfl) (AllP_cons h1 (AllP_cons h2 (AllP_cons h3 (AllP_cons hc (AllP_cons hf (AllP_cons he (AllP_cons h4 (AllP_cons (rfl : true = true) (AllP_cons (f5_2 fr es l many ho1 tk1 false) (AllP_cons (rfl : true = true) (AllP_cons h5 AllP_nil)))))))))))
theorem q4_2 (fr : Nat → Fr) (es : List (Value × Bool × List DV)) (l : List (Int × Int)) (many : Int) (oa oa1 : AV) (ho1 : OutOK oa1) (tk tk1 : List (Nat × Nat)) (i i1 : Int) (c : Int × Int) (x : X) (s : St) (h1 : decide (i < ((l.length : Nat) : Int)) = true) (h2 : 0 ≤ i ∧ (rowsP l)[i.toNat]? = some (rowC c)) (h3 : containsSpec [ordP fr 2, .agg (rowC c)] = some [pbool false])
    (hc : Ev C9 noO (.call 52 [lA l, blkF 2] (hO 2 3 3 3 (updC fr 2 c i) es l many oa tk false)) (.val (vb false) (hO 2 3 3 3 (updC fr 2 c i) es l many oa tk false))) (hf : false = false ∧ fitsP ((fr 2).r).length 1 16)
    (he : Ev C9 noO (.call 48 (args48 3) (hO 3 4 3 3 (updO fr 2 c i ((fr 2).r ++ [rowC c])) es l many oa tk false)) (.val unitA (hO 3 4 3 3 (updO fr 2 c i ((fr 2).r ++ [rowC c])) es l many oa1 tk1 true))) : Ev C9 noO (.code 48 false (loopOf Try.prog 48 0) { σ := fS l i 2, h := (hO 2 3 3 2 fr es l many oa tk false) }) (.code .ret { σ := slots 47 [], h := (hO 2 3 3 2 fr es l many oa1 tk1 true) }) :=
  symT_ev (n := 60) (sc := [(site 48 23, Dec.b true), (site 48 24, Dec.row (rowC c)), (site 48 28, Dec.prim [pbool false]), (site 48 32, Dec.call (vb false) (hO 2 3 3 3 (updC fr 2 c i) es l many oa tk false)), (site 48 39, Dec.app false), (site 48 8003, Dec.rng [1, 2, 3, 4, 20, 21, 22, 40] unitA (hO 3 4 3 3 (updO fr 2 c i ((fr 2).r ++ [rowC c])) es l many oa1 tk1 true))]) (keep := []) (L := [(site 40 3, 3), (site 40 4, 3), (site 40 5, 3), (site 48 6, 2), (loopSite 48, 2)]) (sc' := []) (by kernel_rfl) (AllP_cons h1 (AllP_cons h2 (AllP_cons h3 (AllP_cons hc (AllP_cons hf (AllP_cons he (AllP_cons (rfl : true = true) (AllP_cons (f5_2 fr es l many ho1 tk1 true) (AllP_cons (rfl : true = true) AllP_nil)))))))))
theorem f1_2 (fr : Nat → Fr) (es : List (Value × Bool × List DV)) (l : List (Int × Int)) (many : Int) {oa : AV} (ho : OutOK oa) (tk : List (Nat × Nat)) : ((hO 2 3 3 3 fr es l many oa tk false).objs.all fun e => e.2.2.all (objFreeT [(site 51 4, 0)])) = true := by
  rcases ho with rfl | ⟨_, _, rfl⟩ <;> kernel_rfl
theorem r0_2 (fr : Nat → Fr) (es : List (Value × Bool × List DV)) (l : List (Int × Int)) (many : Int) (oa : AV) (tk : List (Nat × Nat)) (i : Int) (h1 : decide (i < ((l.length : Nat) : Int)) = false) :
    Ev C9 noO (.code 66 false (loopOf Try.prog 66 0) { σ := slots 19 [(0, lA l), (1, blkF 2), (7, vi ((l.length : Nat) : Int)), (8, vi i)], h := (hO 2 3 3 3 fr es l many oa tk false) }) (.code (.exit 0) { σ := slots 19 [], h := (hO 2 3 3 3 fr es l many oa tk false) }) :=
  symM_ev (n := 60) (sc := [(site 66 9, Dec.b false)]) (keep := []) (sc' := []) (by kernel_rfl) (AllP_cons h1 AllP_nil)
theorem r1_2 (fr : Nat → Fr) (es : List (Value × Bool × List DV)) (l : List (Int × Int)) (many : Int) (oa : AV) (tk : List (Nat × Nat)) (i i1 : Int) (y : Int × Int) (ho : OutOK oa) (x : X) (s : St) (h1 : decide (i < ((l.length : Nat) : Int)) = true) (h2 : 0 ≤ i ∧ (rowsP l)[i.toNat]? = some (rowC y)) (h3 : containsSpec [ordP fr 2, .agg (rowC y)] = some [pbool true]) (h4 : wr64 (i + 1) = i1)
    (h5 : Ev C9 noO (.code 66 false (loopOf Try.prog 66 0) { σ := slots 19 [(0, lA l), (1, blkF 2), (7, vi ((l.length : Nat) : Int)), (8, vi i1)], h := (hO 2 3 3 3 fr es l many oa tk false) }) (.code x s)) : Ev C9 noO (.code 66 false (loopOf Try.prog 66 0) { σ := slots 19 [(0, lA l), (1, blkF 2), (7, vi ((l.length : Nat) : Int)), (8, vi i)], h := (hO 2 3 3 3 fr es l many oa tk false) }) (.code x s) :=
  sym_ev 60 _ [(site 66 9, Dec.b true), (site 66 14, Dec.row (rowC y)), (site 51 8, Dec.prim [pbool true]), (site 66 18, Dec.int i1), (site 66 8002, Dec.trunc [(site 51 4, 0)] [0, 1, 7, 8]), (site 66 8001, Dec.loop [0, 1, 7, 8] x s)] _ [] _ (by kernel_rfl) (AllP_cons h1 (AllP_cons h2 (AllP_cons h3 (AllP_cons h4 (AllP_cons (rfl : true = true) (AllP_cons (f1_2 fr es l many ho tk) (AllP_cons (rfl : true = true) (AllP_cons h5 AllP_nil))))))))
theorem r2_2 (fr : Nat → Fr) (es : List (Value × Bool × List DV)) (l : List (Int × Int)) (many : Int) (oa : AV) (tk : List (Nat × Nat)) (i i1 : Int) (y : Int × Int) (ho : OutOK oa) (x : X) (s : St) (h1 : decide (i < ((l.length : Nat) : Int)) = true) (h2 : 0 ≤ i ∧ (rowsP l)[i.toNat]? = some (rowC y)) (h3 : containsSpec [ordP fr 2, .agg (rowC y)] = some [pbool false]) (u v : Int × Int) (h4 : lookupIn C9 59 es (.agg [vi y.1, vi y.2]) false = some (.agg [vi u.1, vi u.2])) (h5 : lookupIn C9 59 es (.agg [vi (fr 2).c.1, vi (fr 2).c.2]) false = some (.agg [vi v.1, vi v.2])) (h6 : aheadSpec [.agg (rowC u), .agg (rowC v)] = some [pbool false]) (h7 : wr64 (i + 1) = i1)
    (h8 : Ev C9 noO (.code 66 false (loopOf Try.prog 66 0) { σ := slots 19 [(0, lA l), (1, blkF 2), (7, vi ((l.length : Nat) : Int)), (8, vi i1)], h := (hO 2 3 3 3 fr es l many oa tk false) }) (.code x s)) : Ev C9 noO (.code 66 false (loopOf Try.prog 66 0) { σ := slots 19 [(0, lA l), (1, blkF 2), (7, vi ((l.length : Nat) : Int)), (8, vi i)], h := (hO 2 3 3 3 fr es l many oa tk false) }) (.code x s) :=
  sym_ev 60 _ [(site 66 9, Dec.b true), (site 66 14, Dec.row (rowC y)), (site 51 8, Dec.prim [pbool false]), (site 51 13, Dec.look (.agg [vi u.1, vi u.2])), (site 51 16, Dec.look (.agg [vi v.1, vi v.2])), (site 51 17, Dec.prim [pbool false]), (site 66 18, Dec.int i1), (site 66 8002, Dec.trunc [(site 51 4, 0)] [0, 1, 7, 8]), (site 66 8001, Dec.loop [0, 1, 7, 8] x s)] _ [] _ (by kernel_rfl) (AllP_cons h1 (AllP_cons h2 (AllP_cons h3 (AllP_cons h4 (AllP_cons h5 (AllP_cons h6 (AllP_cons h7 (AllP_cons (rfl : true = true) (AllP_cons (f1_2 fr es l many ho tk) (AllP_cons (rfl : true = true) (AllP_cons h8 AllP_nil)))))))))))
theorem r3_2 (fr : Nat → Fr) (es : List (Value × Bool × List DV)) (l : List (Int × Int)) (many : Int) (oa : AV) (tk : List (Nat × Nat)) (i i1 : Int) (y : Int × Int) (ho : OutOK oa) (h1 : decide (i < ((l.length : Nat) : Int)) = true) (h2 : 0 ≤ i ∧ (rowsP l)[i.toNat]? = some (rowC y)) (h3 : containsSpec [ordP fr 2, .agg (rowC y)] = some [pbool false]) (u v : Int × Int) (h4 : lookupIn C9 59 es (.agg [vi y.1, vi y.2]) false = some (.agg [vi u.1, vi u.2])) (h5 : lookupIn C9 59 es (.agg [vi (fr 2).c.1, vi (fr 2).c.2]) false = some (.agg [vi v.1, vi v.2])) (h6 : aheadSpec [.agg (rowC u), .agg (rowC v)] = some [pbool true]) :
    Ev C9 noO (.code 66 false (loopOf Try.prog 66 0) { σ := slots 19 [(0, lA l), (1, blkF 2), (7, vi ((l.length : Nat) : Int)), (8, vi i)], h := (hO 2 3 3 3 fr es l many oa tk false) }) (.code .ret { σ := slots 19 [(4, vi i)], h := (hO 2 3 3 3 fr es l many oa tk false) }) :=
  symT_ev (n := 60) (sc := [(site 66 9, Dec.b true), (site 66 14, Dec.row (rowC y)), (site 51 8, Dec.prim [pbool false]), (site 51 13, Dec.look (.agg [vi u.1, vi u.2])), (site 51 16, Dec.look (.agg [vi v.1, vi v.2])), (site 51 17, Dec.prim [pbool true])]) (keep := [4]) (L := [(site 51 4, 0)]) (sc' := []) (by kernel_rfl) (AllP_cons h1 (AllP_cons h2 (AllP_cons h3 (AllP_cons h4 (AllP_cons h5 (AllP_cons h6 (AllP_cons (rfl : true = true) (AllP_cons (f1_2 fr es l many ho tk) (AllP_cons (rfl : true = true) AllP_nil)))))))))
theorem cf_n_2 (fr : Nat → Fr) (es : List (Value × Bool × List DV)) (l : List (Int × Int)) (many : Int) (oa : AV) (tk : List (Nat × Nat)) (h1 : ((rowsP l).length : Int) = ((l.length : Nat) : Int)) (h : Ev C9 noO (.code 66 false (loopOf Try.prog 66 0) { σ := slots 19 [(0, lA l), (1, blkF 2), (7, vi ((l.length : Nat) : Int)), (8, vi 0)], h := (hO 2 3 3 3 fr es l many oa tk false) }) (.code (.exit 0) { σ := slots 19 [], h := (hO 2 3 3 3 fr es l many oa tk false) })) :
    Ev C9 noO (.call 52 [lA l, blkF 2] (hO 2 3 3 3 fr es l many oa tk false)) (.val (vb false) (hO 2 3 3 3 fr es l many oa tk false)) :=
  sym_ev 60 _ [(site 66 7, Dec.int ((l.length : Nat) : Int)), (site 66 8001, Dec.loop [0, 1, 7, 8] (.exit 0) { σ := slots 19 [], h := (hO 2 3 3 3 fr es l many oa tk false) })] _ [] _ (by kernel_rfl) (AllP_cons h1 (AllP_cons h AllP_nil))
theorem cf_y_2 (fr : Nat → Fr) (es : List (Value × Bool × List DV)) (l : List (Int × Int)) (many : Int) (oa : AV) (tk : List (Nat × Nat)) (i : Int) (h1 : ((rowsP l).length : Int) = ((l.length : Nat) : Int)) (h : Ev C9 noO (.code 66 false (loopOf Try.prog 66 0) { σ := slots 19 [(0, lA l), (1, blkF 2), (7, vi ((l.length : Nat) : Int)), (8, vi 0)], h := (hO 2 3 3 3 fr es l many oa tk false) }) (.code .ret { σ := slots 19 [(4, vi i)], h := (hO 2 3 3 3 fr es l many oa tk false) })) (h0 : decide (i ≥ 0) = true) :
    Ev C9 noO (.call 52 [lA l, blkF 2] (hO 2 3 3 3 fr es l many oa tk false)) (.val (vb true) (hO 2 3 3 3 fr es l many oa tk false)) :=
  sym_ev 60 _ [(site 66 7, Dec.int ((l.length : Nat) : Int)), (site 66 8001, Dec.loop [0, 1, 7, 8] .ret { σ := slots 19 [(4, vi i)], h := (hO 2 3 3 3 fr es l many oa tk false) }), (site 52 8, Dec.b true)] _ [] _ (by kernel_rfl) (AllP_cons h1 (AllP_cons h (AllP_cons h0 AllP_nil)))
theorem f4_2 (fr : Nat → Fr) (es : List (Value × Bool × List DV)) (l : List (Int × Int)) (many : Int) {oa : AV} (ho : OutOK oa) (tk : List (Nat × Nat)) (brk : Bool) : ((hO 2 3 2 2 fr es l many oa tk brk).objs.all fun e => e.2.2.all (objFreeT [(site 48 4, 2)])) = true := by
  rcases ho with rfl | ⟨_, _, rfl⟩ <;> kernel_rfl
theorem pne_2 (fr : Nat → Fr) (es : List (Value × Bool × List DV)) (l : List (Int × Int)) (many : Int) (oa : AV) (tk : List (Nat × Nat)) (k : Int) (hf : fitsSpec [.one (.mp es), ordP fr 2] = some [pint k]) (h0 : (k == 0) = false) (oa1 : AV) (ho1 : OutOK oa1) (tk1 : List (Nat × Nat)) (h21 : ((rowsP l).length : Int) = ((l.length : Nat) : Int))
    (hl : Ev C9 noO (.code 48 false (loopOf Try.prog 48 0) { σ := fS l 0 2, h := (hO 2 3 3 2 fr es l many oa tk false) }) (.code (.exit 0) { σ := slots 47 [], h := (hO 2 3 3 2 fr es l many oa1 tk1 false) })) : Ev C9 noO (.call 48 (args48 2) (hO 2 3 2 2 fr es l many oa tk false)) (.val unitA (hO 2 3 2 2 fr es l many oa1 tk1 false)) :=
  symCT_ev (n := 200) (sc := [(site 48 11, Dec.prim [pint k]), (site 48 12, Dec.b false), (site 48 21, Dec.int ((l.length : Nat) : Int)), (site 48 8001, Dec.loop [1, 2, 3, 4, 20, 21, 22] (.exit 0) { σ := slots 47 [], h := (hO 2 3 3 2 fr es l many oa1 tk1 false) })]) (keep := []) (L := [(site 48 4, 2)]) (sc' := []) (by kernel_rfl) (AllP_cons hf (AllP_cons h0 (AllP_cons h21 (AllP_cons hl (AllP_cons (rfl : true = true) (AllP_cons (f4_2 fr es l many ho1 tk1 false) (AllP_cons (rfl : true = true) AllP_nil)))))))
theorem pnr_2 (fr : Nat → Fr) (es : List (Value × Bool × List DV)) (l : List (Int × Int)) (many : Int) (oa : AV) (tk : List (Nat × Nat)) (k : Int) (hf : fitsSpec [.one (.mp es), ordP fr 2] = some [pint k]) (h0 : (k == 0) = false) (oa1 : AV) (ho1 : OutOK oa1) (tk1 : List (Nat × Nat)) (h21 : ((rowsP l).length : Int) = ((l.length : Nat) : Int))
    (hl : Ev C9 noO (.code 48 false (loopOf Try.prog 48 0) { σ := fS l 0 2, h := (hO 2 3 3 2 fr es l many oa tk false) }) (.code .ret { σ := slots 47 [], h := (hO 2 3 3 2 fr es l many oa1 tk1 true) })) : Ev C9 noO (.call 48 (args48 2) (hO 2 3 2 2 fr es l many oa tk false)) (.val unitA (hO 2 3 2 2 fr es l many oa1 tk1 true)) :=
  symCT_ev (n := 200) (sc := [(site 48 11, Dec.prim [pint k]), (site 48 12, Dec.b false), (site 48 21, Dec.int ((l.length : Nat) : Int)), (site 48 8001, Dec.loop [1, 2, 3, 4, 20, 21, 22] .ret { σ := slots 47 [], h := (hO 2 3 3 2 fr es l many oa1 tk1 true) })]) (keep := []) (L := [(site 48 4, 2)]) (sc' := []) (by kernel_rfl) (AllP_cons hf (AllP_cons h0 (AllP_cons h21 (AllP_cons hl (AllP_cons (rfl : true = true) (AllP_cons (f4_2 fr es l many ho1 tk1 true) (AllP_cons (rfl : true = true) AllP_nil)))))))
theorem py0e_2 (fr : Nat → Fr) (es : List (Value × Bool × List DV)) (l : List (Int × Int)) (many : Int) (hf : fitsSpec [.one (.mp es), ordP fr 2] = some [pint 0]) (hcl : cloneSpec [ordP fr 2] = some [ordP fr 2]) (h52 : ((0 : Int) == many) = false) (oa1 : AV) (ho1 : OutOK oa1) (tk1 : List (Nat × Nat)) (h21 : ((rowsP l).length : Int) = ((l.length : Nat) : Int))
    (hl : Ev C9 noO (.code 48 false (loopOf Try.prog 48 0) { σ := fS l 0 2, h := (hO 2 3 3 2 fr es l many (.st 1 [[(.sl 2 false (fr 2).r)]] (site 24 56) 1) [(site 24 56, 1)] false) }) (.code (.exit 0) { σ := slots 47 [], h := (hO 2 3 3 2 fr es l many oa1 tk1 false) })) : Ev C9 noO (.call 48 (args48 2) (hO 2 3 2 2 fr es l many (.d (.v (.slice none 0 0))) [] false)) (.val unitA (hO 2 3 2 2 fr es l many oa1 tk1 false)) :=
  symCT_ev (n := 200) (sc := [(site 48 11, Dec.prim [pint 0]), (site 48 16, Dec.prim [ordP fr 2]), (site 24 52, Dec.b false), (site 48 21, Dec.int ((l.length : Nat) : Int)), (site 48 8001, Dec.loop [1, 2, 3, 4, 20, 21, 22] (.exit 0) { σ := slots 47 [], h := (hO 2 3 3 2 fr es l many oa1 tk1 false) })]) (keep := []) (L := [(site 48 4, 2)]) (sc' := []) (by kernel_rfl) (AllP_cons hf (AllP_cons hcl (AllP_cons h52 (AllP_cons h21 (AllP_cons hl (AllP_cons (rfl : true = true) (AllP_cons (f4_2 fr es l many ho1 tk1 false) (AllP_cons (rfl : true = true) AllP_nil))))))))
theorem py0r_2 (fr : Nat → Fr) (es : List (Value × Bool × List DV)) (l : List (Int × Int)) (many : Int) (hf : fitsSpec [.one (.mp es), ordP fr 2] = some [pint 0]) (hcl : cloneSpec [ordP fr 2] = some [ordP fr 2]) (h52 : ((0 : Int) == many) = false) (oa1 : AV) (ho1 : OutOK oa1) (tk1 : List (Nat × Nat)) (h21 : ((rowsP l).length : Int) = ((l.length : Nat) : Int))
    (hl : Ev C9 noO (.code 48 false (loopOf Try.prog 48 0) { σ := fS l 0 2, h := (hO 2 3 3 2 fr es l many (.st 1 [[(.sl 2 false (fr 2).r)]] (site 24 56) 1) [(site 24 56, 1)] false) }) (.code .ret { σ := slots 47 [], h := (hO 2 3 3 2 fr es l many oa1 tk1 true) })) : Ev C9 noO (.call 48 (args48 2) (hO 2 3 2 2 fr es l many (.d (.v (.slice none 0 0))) [] false)) (.val unitA (hO 2 3 2 2 fr es l many oa1 tk1 true)) :=
  symCT_ev (n := 200) (sc := [(site 48 11, Dec.prim [pint 0]), (site 48 16, Dec.prim [ordP fr 2]), (site 24 52, Dec.b false), (site 48 21, Dec.int ((l.length : Nat) : Int)), (site 48 8001, Dec.loop [1, 2, 3, 4, 20, 21, 22] .ret { σ := slots 47 [], h := (hO 2 3 3 2 fr es l many oa1 tk1 true) })]) (keep := []) (L := [(site 48 4, 2)]) (sc' := []) (by kernel_rfl) (AllP_cons hf (AllP_cons hcl (AllP_cons h52 (AllP_cons h21 (AllP_cons hl (AllP_cons (rfl : true = true) (AllP_cons (f4_2 fr es l many ho1 tk1 true) (AllP_cons (rfl : true = true) AllP_nil))))))))
theorem py1e_2 (fr : Nat → Fr) (es : List (Value × Bool × List DV)) (l : List (Int × Int)) (many : Int) (rows : List (List DV)) (g : Nat) (n : Int) (hf : fitsSpec [.one (.mp es), ordP fr 2] = some [pint 0]) (hcl : cloneSpec [ordP fr 2] = some [ordP fr 2]) (hn : (rows.length : Int) = n) (h52 : (n == many) = false) (hfp : false = false ∧ g = g ∧ fitsP rows.length 1 24) (oa1 : AV) (ho1 : OutOK oa1) (tk1 : List (Nat × Nat)) (h21 : ((rowsP l).length : Int) = ((l.length : Nat) : Int))
    (hl : Ev C9 noO (.code 48 false (loopOf Try.prog 48 0) { σ := fS l 0 2, h := (hO 2 3 3 2 fr es l many (.st 1 (rows ++ [[(.sl 2 false (fr 2).r)]]) (site 24 56) (g + 1 + 1)) [(site 24 56, g + 1 + 1)] false) }) (.code (.exit 0) { σ := slots 47 [], h := (hO 2 3 3 2 fr es l many oa1 tk1 false) })) : Ev C9 noO (.call 48 (args48 2) (hO 2 3 2 2 fr es l many (.st 1 rows (site 24 56) g) [(site 24 56, g)] false)) (.val unitA (hO 2 3 2 2 fr es l many oa1 tk1 false)) :=
  symCT_ev (n := 200) (sc := [(site 48 11, Dec.prim [pint 0]), (site 48 16, Dec.prim [ordP fr 2]), (site 24 50, Dec.int n), (site 24 52, Dec.b false), (site 24 56, Dec.app false), (site 48 21, Dec.int ((l.length : Nat) : Int)), (site 48 8001, Dec.loop [1, 2, 3, 4, 20, 21, 22] (.exit 0) { σ := slots 47 [], h := (hO 2 3 3 2 fr es l many oa1 tk1 false) })]) (keep := []) (L := [(site 48 4, 2)]) (sc' := []) (by kernel_rfl) (AllP_cons hf (AllP_cons hcl (AllP_cons hn (AllP_cons h52 (AllP_cons hfp (AllP_cons h21 (AllP_cons hl (AllP_cons (rfl : true = true) (AllP_cons (f4_2 fr es l many ho1 tk1 false) (AllP_cons (rfl : true = true) AllP_nil))))))))))
theorem py1r_2 (fr : Nat → Fr) (es : List (Value × Bool × List DV)) (l : List (Int × Int)) (many : Int) (rows : List (List DV)) (g : Nat) (n : Int) (hf : fitsSpec [.one (.mp es), ordP fr 2] = some [pint 0]) (hcl : cloneSpec [ordP fr 2] = some [ordP fr 2]) (hn : (rows.length : Int) = n) (h52 : (n == many) = false) (hfp : false = false ∧ g = g ∧ fitsP rows.length 1 24) (oa1 : AV) (ho1 : OutOK oa1) (tk1 : List (Nat × Nat)) (h21 : ((rowsP l).length : Int) = ((l.length : Nat) : Int))
    (hl : Ev C9 noO (.code 48 false (loopOf Try.prog 48 0) { σ := fS l 0 2, h := (hO 2 3 3 2 fr es l many (.st 1 (rows ++ [[(.sl 2 false (fr 2).r)]]) (site 24 56) (g + 1 + 1)) [(site 24 56, g + 1 + 1)] false) }) (.code .ret { σ := slots 47 [], h := (hO 2 3 3 2 fr es l many oa1 tk1 true) })) : Ev C9 noO (.call 48 (args48 2) (hO 2 3 2 2 fr es l many (.st 1 rows (site 24 56) g) [(site 24 56, g)] false)) (.val unitA (hO 2 3 2 2 fr es l many oa1 tk1 true)) :=
  symCT_ev (n := 200) (sc := [(site 48 11, Dec.prim [pint 0]), (site 48 16, Dec.prim [ordP fr 2]), (site 24 50, Dec.int n), (site 24 52, Dec.b false), (site 24 56, Dec.app false), (site 48 21, Dec.int ((l.length : Nat) : Int)), (site 48 8001, Dec.loop [1, 2, 3, 4, 20, 21, 22] .ret { σ := slots 47 [], h := (hO 2 3 3 2 fr es l many oa1 tk1 true) })]) (keep := []) (L := [(site 48 4, 2)]) (sc' := []) (by kernel_rfl) (AllP_cons hf (AllP_cons hcl (AllP_cons hn (AllP_cons h52 (AllP_cons hfp (AllP_cons h21 (AllP_cons hl (AllP_cons (rfl : true = true) (AllP_cons (f4_2 fr es l many ho1 tk1 true) (AllP_cons (rfl : true = true) AllP_nil))))))))))
theorem pb0_2 (fr : Nat → Fr) (es : List (Value × Bool × List DV)) (l : List (Int × Int)) (many : Int) (hf : fitsSpec [.one (.mp es), ordP fr 2] = some [pint 0]) (hcl : cloneSpec [ordP fr 2] = some [ordP fr 2]) (h52 : ((0 : Int) == many) = true) : Ev C9 noO (.call 48 (args48 2) (hO 2 3 2 2 fr es l many (.d (.v (.slice none 0 0))) [] false)) (.val unitA (hO 2 3 2 2 fr es l many (.d (.v (.slice none 0 0))) [] true)) :=
  symCT_ev (n := 200) (sc := [(site 48 11, Dec.prim [pint 0]), (site 48 16, Dec.prim [ordP fr 2]), (site 24 52, Dec.b true)]) (keep := []) (L := [(site 48 4, 2)]) (sc' := []) (by kernel_rfl) (AllP_cons hf (AllP_cons hcl (AllP_cons h52 (AllP_cons (rfl : true = true) (AllP_cons (rfl : true = true) (AllP_cons (rfl : true = true) AllP_nil))))))
theorem pb1_2 (fr : Nat → Fr) (es : List (Value × Bool × List DV)) (l : List (Int × Int)) (many : Int) (rows : List (List DV)) (g : Nat) (n : Int) (hf : fitsSpec [.one (.mp es), ordP fr 2] = some [pint 0]) (hcl : cloneSpec [ordP fr 2] = some [ordP fr 2]) (hn : (rows.length : Int) = n) (h52 : (n == many) = true) : Ev C9 noO (.call 48 (args48 2) (hO 2 3 2 2 fr es l many (.st 1 rows (site 24 56) g) [(site 24 56, g)] false)) (.val unitA (hO 2 3 2 2 fr es l many (.st 1 rows (site 24 56) g) [(site 24 56, g)] true)) :=
  symCT_ev (n := 200) (sc := [(site 48 11, Dec.prim [pint 0]), (site 48 16, Dec.prim [ordP fr 2]), (site 24 50, Dec.int n), (site 24 52, Dec.b true)]) (keep := []) (L := [(site 48 4, 2)]) (sc' := []) (by kernel_rfl) (AllP_cons hf (AllP_cons hcl (AllP_cons hn (AllP_cons h52 (AllP_cons (rfl : true = true) (AllP_cons (rfl : true = true) (AllP_cons (rfl : true = true) AllP_nil)))))))

end Go.Ev

namespace Go.Ev
open Go Go.RowKit Go.Proofs

theorem f6_3 (fr : Nat → Fr) (es : List (Value × Bool × List DV)) (l : List (Int × Int)) (many : Int) {oa : AV} (ho : OutOK oa) (tk : List (Nat × Nat)) (brk : Bool) : ((hO 3 4 4 3 fr es l many oa tk brk).objs.all fun e => e.2.2.all (objFreeT [(site 48 6, 3)])) = true := by
  rcases ho with rfl | ⟨_, _, rfl⟩ <;> kernel_rfl
theorem f5_3 (fr : Nat → Fr) (es : List (Value × Bool × List DV)) (l : List (Int × Int)) (many : Int) {oa : AV} (ho : OutOK oa) (tk : List (Nat × Nat)) (brk : Bool) : ((hO 3 4 4 3 fr es l many oa tk brk).objs.all fun e => e.2.2.all (objFreeT [(site 40 3, 4), (site 40 4, 4), (site 40 5, 4), (site 48 6, 3), (loopSite 48, 3)])) = true := by
  rcases ho with rfl | ⟨_, _, rfl⟩ <;> kernel_rfl
theorem q0_3 (fr : Nat → Fr) (es : List (Value × Bool × List DV)) (l : List (Int × Int)) (many : Int) (oa : AV) (tk : List (Nat × Nat)) (i : Int) (h1 : decide (i < ((l.length : Nat) : Int)) = false) :
    Ev C9 noO (.code 48 false (loopOf Try.prog 48 0) { σ := fS l i 3, h := (hO 3 4 4 3 fr es l many oa tk false) }) (.code (.exit 0) { σ := slots 47 [], h := (hO 3 4 4 3 fr es l many oa tk false) }) :=
  symM_ev (n := 60) (sc := [(site 48 23, Dec.b false)]) (keep := []) (sc' := []) (by kernel_rfl) (AllP_cons h1 AllP_nil)
theorem q1_3 (fr : Nat → Fr) (es : List (Value × Bool × List DV)) (l : List (Int × Int)) (many : Int) (oa : AV) (ho : OutOK oa) (tk : List (Nat × Nat)) (i i1 : Int) (c : Int × Int) (x : X) (s : St) (h1 : decide (i < ((l.length : Nat) : Int)) = true) (h2 : 0 ≤ i ∧ (rowsP l)[i.toNat]? = some (rowC c)) (h3 : containsSpec [ordP fr 3, .agg (rowC c)] = some [pbool true]) (h4 : wr64 (i + 1) = i1)
    (h5 : Ev C9 noO (.code 48 false (loopOf Try.prog 48 0) { σ := fS l i1 3, h := (hO 3 4 4 3 fr es l many oa tk false) }) (.code x s)) : Ev C9 noO (.code 48 false (loopOf Try.prog 48 0) { σ := fS l i 3, h := (hO 3 4 4 3 fr es l many oa tk false) }) (.code x s) :=
  sym_ev 60 _ [(site 48 23, Dec.b true), (site 48 24, Dec.row (rowC c)), (site 48 28, Dec.prim [pbool true]), (site 48 46, Dec.int i1), (site 48 8002, Dec.trunc [(site 48 6, 3)] [1, 2, 3, 4, 20, 21, 22]), (site 48 8001, Dec.loop [1, 2, 3, 4, 20, 21, 22] x s)] _ [] _ (by kernel_rfl) (AllP_cons h1 (AllP_cons h2 (AllP_cons h3 (AllP_cons h4 (AllP_cons (rfl : true = true) (AllP_cons (f6_3 fr es l many ho tk false) (AllP_cons (rfl : true = true) (AllP_cons h5 AllP_nil))))))))
theorem q2_3 (fr : Nat → Fr) (es : List (Value × Bool × List DV)) (l : List (Int × Int)) (many : Int) (oa : AV) (ho : OutOK oa) (tk : List (Nat × Nat)) (i i1 : Int) (c : Int × Int) (x : X) (s : St) (h1 : decide (i < ((l.length : Nat) : Int)) = true) (h2 : 0 ≤ i ∧ (rowsP l)[i.toNat]? = some (rowC c)) (h3 : containsSpec [ordP fr 3, .agg (rowC c)] = some [pbool false])
    (hc : Ev C9 noO (.call 52 [lA l, blkF 3] (hO 3 4 4 4 (updC fr 3 c i) es l many oa tk false)) (.val (vb true) (hO 3 4 4 4 (updC fr 3 c i) es l many oa tk false))) (h4 : wr64 (i + 1) = i1)
    (h5 : Ev C9 noO (.code 48 false (loopOf Try.prog 48 0) { σ := fS l i1 3, h := (hO 3 4 4 3 fr es l many oa tk false) }) (.code x s)) : Ev C9 noO (.code 48 false (loopOf Try.prog 48 0) { σ := fS l i 3, h := (hO 3 4 4 3 fr es l many oa tk false) }) (.code x s) :=
  sym_ev 60 _ [(site 48 23, Dec.b true), (site 48 24, Dec.row (rowC c)), (site 48 28, Dec.prim [pbool false]), (site 48 32, Dec.call (vb true) (hO 3 4 4 4 (updC fr 3 c i) es l many oa tk false)), (site 48 46, Dec.int i1), (site 48 8002, Dec.trunc [(site 48 6, 3)] [1, 2, 3, 4, 20, 21, 22]), (site 48 8001, Dec.loop [1, 2, 3, 4, 20, 21, 22] x s)] _ [] _ (by kernel_rfl) (AllP_cons h1 (AllP_cons h2 (AllP_cons h3 (AllP_cons hc (AllP_cons h4 (AllP_cons (rfl : true = true) (AllP_cons (f6_3 fr es l many ho tk false) (AllP_cons (rfl : true = true) (AllP_cons h5 AllP_nil)))))))))
theorem q3_3 (fr : Nat → Fr) (es : List (Value × Bool × List DV)) (l : List (Int × Int)) (many : Int) (oa oa1 : AV) (ho1 : OutOK oa1) (tk tk1 : List (Nat × Nat)) (i i1 : Int) (c : Int × Int) (x : X) (s : St) (h1 : decide (i < ((l.length : Nat) : Int)) = true) (h2 : 0 ≤ i ∧ (rowsP l)[i.toNat]? = some (rowC c)) (h3 : containsSpec [ordP fr 3, .agg (rowC c)] = some [pbool false])
    (hc : Ev C9 noO (.call 52 [lA l, blkF 3] (hO 3 4 4 4 (updC fr 3 c i) es l many oa tk false)) (.val (vb false) (hO 3 4 4 4 (updC fr 3 c i) es l many oa tk false))) (hf : false = false ∧ fitsP ((fr 3).r).length 1 16)
    (he : Ev C9 noO (.call 48 (args48 4) (hO 4 5 4 4 (updO fr 3 c i ((fr 3).r ++ [rowC c])) es l many oa tk false)) (.val unitA (hO 4 5 4 4 (updO fr 3 c i ((fr 3).r ++ [rowC c])) es l many oa1 tk1 false))) (h4 : wr64 (i + 1) = i1)
    (h5 : Ev C9 noO (.code 48 false (loopOf Try.prog 48 0) { σ := fS l i1 3, h := (hO 3 4 4 3 fr es l many oa1 tk1 false) }) (.code x s)) : Ev C9 noO (.code 48 false (loopOf Try.prog 48 0) { σ := fS l i 3, h := (hO 3 4 4 3 fr es l many oa tk false) }) (.code x s) :=
  sym_ev 60 _ [(site 48 23, Dec.b true), (site 48 24, Dec.row (rowC c)), (site 48 28, Dec.prim [pbool false]), (site 48 32, Dec.call (vb false) (hO 3 4 4 4 (updC fr 3 c i) es l many oa tk false)), (site 48 39, Dec.app false), (site 48 8003, Dec.rng [1, 2, 3, 4, 20, 21, 22, 40] unitA (hO 4 5 4 4 (updO fr 3 c i ((fr 3).r ++ [rowC c])) es l many oa1 tk1 false)), (site 48 46, Dec.int i1), (site 48 8002, Dec.trunc [(site 40 3, 4), (site 40 4, 4), (site 40 5, 4), (site 48 6, 3), (loopSite 48, 3)] [1, 2, 3, 4, 20, 21, 22]), (site 48 8001, Dec.loop [1, 2, 3, 4, 20, 21, 22] x s)] _ [] _ (by kernel_rfl) (AllP_cons h1 (AllP_cons h2 (AllP_cons h3 (AllP_cons hc (AllP_cons hf (AllP_cons he (AllP_cons h4 (AllP_cons (rfl : true = true) (AllP_cons (f5_3 fr es l many ho1 tk1 false) (AllP_cons (rfl : true = true) (AllP_cons h5 AllP_nil)))))))))))
theorem q4_3 (fr : Nat → Fr) (es : List (Value × Bool × List DV)) (l : List (Int × Int)) (many : Int) (oa oa1 : AV) (ho1 : OutOK oa1) (tk tk1 : List (Nat × Nat)) (i i1 : Int) (c : Int × Int) (x : X) (s : St) (h1 : decide (i < ((l.length : Nat) : Int)) = true) (h2 : 0 ≤ i ∧ (rowsP l)[i.toNat]? = some (rowC c)) (h3 : containsSpec [ordP fr 3, .agg (rowC c)] = some [pbool false])
    (hc : Ev C9 noO (.call 52 [lA l, blkF 3] (hO 3 4 4 4 (updC fr 3 c i) es l many oa tk false)) (.val (vb false) (hO 3 4 4 4 (updC fr 3 c i) es l many oa tk false))) (hf : false = false ∧ fitsP ((fr 3).r).length 1 16)
    (he : Ev C9 noO (.call 48 (args48 4) (hO 4 5 4 4 (updO fr 3 c i ((fr 3).r ++ [rowC c])) es l many oa tk false)) (.val unitA (hO 4 5 4 4 (updO fr 3 c i ((fr 3).r ++ [rowC c])) es l many oa1 tk1 true))) : Ev C9 noO (.code 48 false (loopOf Try.prog 48 0) { σ := fS l i 3, h := (hO 3 4 4 3 fr es l many oa tk false) }) (.code .ret { σ := slots 47 [], h := (hO 3 4 4 3 fr es l many oa1 tk1 true) }) :=
  symT_ev (n := 60) (sc := [(site 48 23, Dec.b true), (site 48 24, Dec.row (rowC c)), (site 48 28, Dec.prim [pbool false]), (site 48 32, Dec.call (vb false) (hO 3 4 4 4 (updC fr 3 c i) es l many oa tk false)), (site 48 39, Dec.app false), (site 48 8003, Dec.rng [1, 2, 3, 4, 20, 21, 22, 40] unitA (hO 4 5 4 4 (updO fr 3 c i ((fr 3).r ++ [rowC c])) es l many oa1 tk1 true))]) (keep := []) (L := [(site 40 3, 4), (site 40 4, 4), (site 40 5, 4), (site 48 6, 3), (loopSite 48, 3)]) (sc' := []) (by kernel_rfl) (AllP_cons h1 (AllP_cons h2 (AllP_cons h3 (AllP_cons hc (AllP_cons hf (AllP_cons he (AllP_cons (rfl : true = true) (AllP_cons (f5_3 fr es l many ho1 tk1 true) (AllP_cons (rfl : true = true) AllP_nil)))))))))
theorem f1_3 (fr : Nat → Fr) (es : List (Value × Bool × List DV)) (l : List (Int × Int)) (many : Int) {oa : AV} (ho : OutOK oa) (tk : List (Nat × Nat)) : ((hO 3 4 4 4 fr es l many oa tk false).objs.all fun e => e.2.2.all (objFreeT [(site 51 4, 0)])) = true := by
  rcases ho with rfl | ⟨_, _, rfl⟩ <;> kernel_rfl
theorem r0_3 (fr : Nat → Fr) (es : List (Value × Bool × List DV)) (l : List (Int × Int)) (many : Int) (oa : AV) (tk : List (Nat × Nat)) (i : Int) (h1 : decide (i < ((l.length : Nat) : Int)) = false) :
    Ev C9 noO (.code 66 false (loopOf Try.prog 66 0) { σ := slots 19 [(0, lA l), (1, blkF 3), (7, vi ((l.length : Nat) : Int)), (8, vi i)], h := (hO 3 4 4 4 fr es l many oa tk false) }) (.code (.exit 0) { σ := slots 19 [], h := (hO 3 4 4 4 fr es l many oa tk false) }) :=
  symM_ev (n := 60) (sc := [(site 66 9, Dec.b false)]) (keep := []) (sc' := []) (by kernel_rfl) (AllP_cons h1 AllP_nil)
theorem r1_3 (fr : Nat → Fr) (es : List (Value × Bool × List DV)) (l : List (Int × Int)) (many : Int) (oa : AV) (tk : List (Nat × Nat)) (i i1 : Int) (y : Int × Int) (ho : OutOK oa) (x : X) (s : St) (h1 : decide (i < ((l.length : Nat) : Int)) = true) (h2 : 0 ≤ i ∧ (rowsP l)[i.toNat]? = some (rowC y)) (h3 : containsSpec [ordP fr 3, .agg (rowC y)] = some [pbool true]) (h4 : wr64 (i + 1) = i1)
    (h5 : Ev C9 noO (.code 66 false (loopOf Try.prog 66 0) { σ := slots 19 [(0, lA l), (1, blkF 3), (7, vi ((l.length : Nat) : Int)), (8, vi i1)], h := (hO 3 4 4 4 fr es l many oa tk false) }) (.code x s)) : Ev C9 noO (.code 66 false (loopOf Try.prog 66 0) { σ := slots 19 [(0, lA l), (1, blkF 3), (7, vi ((l.length : Nat) : Int)), (8, vi i)], h := (hO 3 4 4 4 fr es l many oa tk false) }) (.code x s) :=
  sym_ev 60 _ [(site 66 9, Dec.b true), (site 66 14, Dec.row (rowC y)), (site 51 8, Dec.prim [pbool true]), (site 66 18, Dec.int i1), (site 66 8002, Dec.trunc [(site 51 4, 0)] [0, 1, 7, 8]), (site 66 8001, Dec.loop [0, 1, 7, 8] x s)] _ [] _ (by kernel_rfl) (AllP_cons h1 (AllP_cons h2 (AllP_cons h3 (AllP_cons h4 (AllP_cons (rfl : true = true) (AllP_cons (f1_3 fr es l many ho tk) (AllP_cons (rfl : true = true) (AllP_cons h5 AllP_nil))))))))
theorem r2_3 (fr : Nat → Fr) (es : List (Value × Bool × List DV)) (l : List (Int × Int)) (many : Int) (oa : AV) (tk : List (Nat × Nat)) (i i1 : Int) (y : Int × Int) (ho : OutOK oa) (x : X) (s : St) (h1 : decide (i < ((l.length : Nat) : Int)) = true) (h2 : 0 ≤ i ∧ (rowsP l)[i.toNat]? = some (rowC y)) (h3 : containsSpec [ordP fr 3, .agg (rowC y)] = some [pbool false]) (u v : Int × Int) (h4 : lookupIn C9 59 es (.agg [vi y.1, vi y.2]) false = some (.agg [vi u.1, vi u.2])) (h5 : lookupIn C9 59 es (.agg [vi (fr 3).c.1, vi (fr 3).c.2]) false = some (.agg [vi v.1, vi v.2])) (h6 : aheadSpec [.agg (rowC u), .agg (rowC v)] = some [pbool false]) (h7 : wr64 (i + 1) = i1)
    (h8 : Ev C9 noO (.code 66 false (loopOf Try.prog 66 0) { σ := slots 19 [(0, lA l), (1, blkF 3), (7, vi ((l.length : Nat) : Int)), (8, vi i1)], h := (hO 3 4 4 4 fr es l many oa tk false) }) (.code x s)) : Ev C9 noO (.code 66 false (loopOf Try.prog 66 0) { σ := slots 19 [(0, lA l), (1, blkF 3), (7, vi ((l.length : Nat) : Int)), (8, vi i)], h := (hO 3 4 4 4 fr es l many oa tk false) }) (.code x s) :=
  sym_ev 60 _ [(site 66 9, Dec.b true), (site 66 14, Dec.row (rowC y)), (site 51 8, Dec.prim [pbool false]), (site 51 13, Dec.look (.agg [vi u.1, vi u.2])), (site 51 16, Dec.look (.agg [vi v.1, vi v.2])), (site 51 17, Dec.prim [pbool false]), (site 66 18, Dec.int i1), (site 66 8002, Dec.trunc [(site 51 4, 0)] [0, 1, 7, 8]), (site 66 8001, Dec.loop [0, 1, 7, 8] x s)] _ [] _ (by kernel_rfl) (AllP_cons h1 (AllP_cons h2 (AllP_cons h3 (AllP_cons h4 (AllP_cons h5 (AllP_cons h6 (AllP_cons h7 (AllP_cons (rfl : true = true) (AllP_cons (f1_3 fr es l many ho tk) (AllP_cons (rfl : true = true) (AllP_cons h8 AllP_nil)))))))))))
theorem r3_3 (fr : Nat → Fr) (es : List (Value × Bool × List DV)) (l : List (Int × Int)) (many : Int) (oa : AV) (tk : List (Nat × Nat)) (i i1 : Int) (y : Int × Int) (ho : OutOK oa) (h1 : decide (i < ((l.length : Nat) : Int)) = true) (h2 : 0 ≤ i ∧ (rowsP l)[i.toNat]? = some (rowC y)) (h3 : containsSpec [ordP fr 3, .agg (rowC y)] = some [pbool false]) (u v : Int × Int) (h4 : lookupIn C9 59 es (.agg [vi y.1, vi y.2]) false = some (.agg [vi u.1, vi u.2])) (h5 : lookupIn C9 59 es (.agg [vi (fr 3).c.1, vi (fr 3).c.2]) false = some (.agg [vi v.1, vi v.2])) (h6 : aheadSpec [.agg (rowC u), .agg (rowC v)] = some [pbool true]) :
    Ev C9 noO (.code 66 false (loopOf Try.prog 66 0) { σ := slots 19 [(0, lA l), (1, blkF 3), (7, vi ((l.length : Nat) : Int)), (8, vi i)], h := (hO 3 4 4 4 fr es l many oa tk false) }) (.code .ret { σ := slots 19 [(4, vi i)], h := (hO 3 4 4 4 fr es l many oa tk false) }) :=
  symT_ev (n := 60) (sc := [(site 66 9, Dec.b true), (site 66 14, Dec.row (rowC y)), (site 51 8, Dec.prim [pbool false]), (site 51 13, Dec.look (.agg [vi u.1, vi u.2])), (site 51 16, Dec.look (.agg [vi v.1, vi v.2])), (site 51 17, Dec.prim [pbool true])]) (keep := [4]) (L := [(site 51 4, 0)]) (sc' := []) (by kernel_rfl) (AllP_cons h1 (AllP_cons h2 (AllP_cons h3 (AllP_cons h4 (AllP_cons h5 (AllP_cons h6 (AllP_cons (rfl : true = true) (AllP_cons (f1_3 fr es l many ho tk) (AllP_cons (rfl : true = true) AllP_nil)))))))))
theorem cf_n_3 (fr : Nat → Fr) (es : List (Value × Bool × List DV)) (l : List (Int × Int)) (many : Int) (oa : AV) (tk : List (Nat × Nat)) (h1 : ((rowsP l).length : Int) = ((l.length : Nat) : Int)) (h : Ev C9 noO (.code 66 false (loopOf Try.prog 66 0) { σ := slots 19 [(0, lA l), (1, blkF 3), (7, vi ((l.length : Nat) : Int)), (8, vi 0)], h := (hO 3 4 4 4 fr es l many oa tk false) }) (.code (.exit 0) { σ := slots 19 [], h := (hO 3 4 4 4 fr es l many oa tk false) })) :
    Ev C9 noO (.call 52 [lA l, blkF 3] (hO 3 4 4 4 fr es l many oa tk false)) (.val (vb false) (hO 3 4 4 4 fr es l many oa tk false)) :=
  sym_ev 60 _ [(site 66 7, Dec.int ((l.length : Nat) : Int)), (site 66 8001, Dec.loop [0, 1, 7, 8] (.exit 0) { σ := slots 19 [], h := (hO 3 4 4 4 fr es l many oa tk false) })] _ [] _ (by kernel_rfl) (AllP_cons h1 (AllP_cons h AllP_nil))
theorem cf_y_3 (fr : Nat → Fr) (es : List (Value × Bool × List DV)) (l : List (Int × Int)) (many : Int) (oa : AV) (tk : List (Nat × Nat)) (i : Int) (h1 : ((rowsP l).length : Int) = ((l.length : Nat) : Int)) (h : Ev C9 noO (.code 66 false (loopOf Try.prog 66 0) { σ := slots 19 [(0, lA l), (1, blkF 3), (7, vi ((l.length : Nat) : Int)), (8, vi 0)], h := (hO 3 4 4 4 fr es l many oa tk false) }) (.code .ret { σ := slots 19 [(4, vi i)], h := (hO 3 4 4 4 fr es l many oa tk false) })) (h0 : decide (i ≥ 0) = true) :
    Ev C9 noO (.call 52 [lA l, blkF 3] (hO 3 4 4 4 fr es l many oa tk false)) (.val (vb true) (hO 3 4 4 4 fr es l many oa tk false)) :=
  sym_ev 60 _ [(site 66 7, Dec.int ((l.length : Nat) : Int)), (site 66 8001, Dec.loop [0, 1, 7, 8] .ret { σ := slots 19 [(4, vi i)], h := (hO 3 4 4 4 fr es l many oa tk false) }), (site 52 8, Dec.b true)] _ [] _ (by kernel_rfl) (AllP_cons h1 (AllP_cons h (AllP_cons h0 AllP_nil)))
theorem f4_3 (fr : Nat → Fr) (es : List (Value × Bool × List DV)) (l : List (Int × Int)) (many : Int) {oa : AV} (ho : OutOK oa) (tk : List (Nat × Nat)) (brk : Bool) : ((hO 3 4 3 3 fr es l many oa tk brk).objs.all fun e => e.2.2.all (objFreeT [(site 48 4, 3)])) = true := by
  rcases ho with rfl | ⟨_, _, rfl⟩ <;> kernel_rfl
theorem pne_3 (fr : Nat → Fr) (es : List (Value × Bool × List DV)) (l : List (Int × Int)) (many : Int) (oa : AV) (tk : List (Nat × Nat)) (k : Int) (hf : fitsSpec [.one (.mp es), ordP fr 3] = some [pint k]) (h0 : (k == 0) = false) (oa1 : AV) (ho1 : OutOK oa1) (tk1 : List (Nat × Nat)) (h21 : ((rowsP l).length : Int) = ((l.length : Nat) : Int))
    (hl : Ev C9 noO (.code 48 false (loopOf Try.prog 48 0) { σ := fS l 0 3, h := (hO 3 4 4 3 fr es l many oa tk false) }) (.code (.exit 0) { σ := slots 47 [], h := (hO 3 4 4 3 fr es l many oa1 tk1 false) })) : Ev C9 noO (.call 48 (args48 3) (hO 3 4 3 3 fr es l many oa tk false)) (.val unitA (hO 3 4 3 3 fr es l many oa1 tk1 false)) :=
  symCT_ev (n := 200) (sc := [(site 48 11, Dec.prim [pint k]), (site 48 12, Dec.b false), (site 48 21, Dec.int ((l.length : Nat) : Int)), (site 48 8001, Dec.loop [1, 2, 3, 4, 20, 21, 22] (.exit 0) { σ := slots 47 [], h := (hO 3 4 4 3 fr es l many oa1 tk1 false) })]) (keep := []) (L := [(site 48 4, 3)]) (sc' := []) (by kernel_rfl) (AllP_cons hf (AllP_cons h0 (AllP_cons h21 (AllP_cons hl (AllP_cons (rfl : true = true) (AllP_cons (f4_3 fr es l many ho1 tk1 false) (AllP_cons (rfl : true = true) AllP_nil)))))))
theorem pnr_3 (fr : Nat → Fr) (es : List (Value × Bool × List DV)) (l : List (Int × Int)) (many : Int) (oa : AV) (tk : List (Nat × Nat)) (k : Int) (hf : fitsSpec [.one (.mp es), ordP fr 3] = some [pint k]) (h0 : (k == 0) = false) (oa1 : AV) (ho1 : OutOK oa1) (tk1 : List (Nat × Nat)) (h21 : ((rowsP l).length : Int) = ((l.length : Nat) : Int))
    (hl : Ev C9 noO (.code 48 false (loopOf Try.prog 48 0) { σ := fS l 0 3, h := (hO 3 4 4 3 fr es l many oa tk false) }) (.code .ret { σ := slots 47 [], h := (hO 3 4 4 3 fr es l many oa1 tk1 true) })) : Ev C9 noO (.call 48 (args48 3) (hO 3 4 3 3 fr es l many oa tk false)) (.val unitA (hO 3 4 3 3 fr es l many oa1 tk1 true)) :=
  symCT_ev (n := 200) (sc := [(site 48 11, Dec.prim [pint k]), (site 48 12, Dec.b false), (site 48 21, Dec.int ((l.length : Nat) : Int)), (site 48 8001, Dec.loop [1, 2, 3, 4, 20, 21, 22] .ret { σ := slots 47 [], h := (hO 3 4 4 3 fr es l many oa1 tk1 true) })]) (keep := []) (L := [(site 48 4, 3)]) (sc' := []) (by kernel_rfl) (AllP_cons hf (AllP_cons h0 (AllP_cons h21 (AllP_cons hl (AllP_cons (rfl : true = true) (AllP_cons (f4_3 fr es l many ho1 tk1 true) (AllP_cons (rfl : true = true) AllP_nil)))))))
theorem py0e_3 (fr : Nat → Fr) (es : List (Value × Bool × List DV)) (l : List (Int × Int)) (many : Int) (hf : fitsSpec [.one (.mp es), ordP fr 3] = some [pint 0]) (hcl : cloneSpec [ordP fr 3] = some [ordP fr 3]) (h52 : ((0 : Int) == many) = false) (oa1 : AV) (ho1 : OutOK oa1) (tk1 : List (Nat × Nat)) (h21 : ((rowsP l).length : Int) = ((l.length : Nat) : Int))
    (hl : Ev C9 noO (.code 48 false (loopOf Try.prog 48 0) { σ := fS l 0 3, h := (hO 3 4 4 3 fr es l many (.st 1 [[(.sl 2 false (fr 3).r)]] (site 24 56) 1) [(site 24 56, 1)] false) }) (.code (.exit 0) { σ := slots 47 [], h := (hO 3 4 4 3 fr es l many oa1 tk1 false) })) : Ev C9 noO (.call 48 (args48 3) (hO 3 4 3 3 fr es l many (.d (.v (.slice none 0 0))) [] false)) (.val unitA (hO 3 4 3 3 fr es l many oa1 tk1 false)) :=
  symCT_ev (n := 200) (sc := [(site 48 11, Dec.prim [pint 0]), (site 48 16, Dec.prim [ordP fr 3]), (site 24 52, Dec.b false), (site 48 21, Dec.int ((l.length : Nat) : Int)), (site 48 8001, Dec.loop [1, 2, 3, 4, 20, 21, 22] (.exit 0) { σ := slots 47 [], h := (hO 3 4 4 3 fr es l many oa1 tk1 false) })]) (keep := []) (L := [(site 48 4, 3)]) (sc' := []) (by kernel_rfl) (AllP_cons hf (AllP_cons hcl (AllP_cons h52 (AllP_cons h21 (AllP_cons hl (AllP_cons (rfl : true = true) (AllP_cons (f4_3 fr es l many ho1 tk1 false) (AllP_cons (rfl : true = true) AllP_nil))))))))
theorem py0r_3 (fr : Nat → Fr) (es : List (Value × Bool × List DV)) (l : List (Int × Int)) (many : Int) (hf : fitsSpec [.one (.mp es), ordP fr 3] = some [pint 0]) (hcl : cloneSpec [ordP fr 3] = some [ordP fr 3]) (h52 : ((0 : Int) == many) = false) (oa1 : AV) (ho1 : OutOK oa1) (tk1 : List (Nat × Nat)) (h21 : ((rowsP l).length : Int) = ((l.length : Nat) : Int))
    (hl : Ev C9 noO (.code 48 false (loopOf Try.prog 48 0) { σ := fS l 0 3, h := (hO 3 4 4 3 fr es l many (.st 1 [[(.sl 2 false (fr 3).r)]] (site 24 56) 1) [(site 24 56, 1)] false) }) (.code .ret { σ := slots 47 [], h := (hO 3 4 4 3 fr es l many oa1 tk1 true) })) : Ev C9 noO (.call 48 (args48 3) (hO 3 4 3 3 fr es l many (.d (.v (.slice none 0 0))) [] false)) (.val unitA (hO 3 4 3 3 fr es l many oa1 tk1 true)) :=
  symCT_ev (n := 200) (sc := [(site 48 11, Dec.prim [pint 0]), (site 48 16, Dec.prim [ordP fr 3]), (site 24 52, Dec.b false), (site 48 21, Dec.int ((l.length : Nat) : Int)), (site 48 8001, Dec.loop [1, 2, 3, 4, 20, 21, 22] .ret { σ := slots 47 [], h := (hO 3 4 4 3 fr es l many oa1 tk1 true) })]) (keep := []) (L := [(site 48 4, 3)]) (sc' := []) (by kernel_rfl) (AllP_cons hf (AllP_cons hcl (AllP_cons h52 (AllP_cons h21 (AllP_cons hl (AllP_cons (rfl : true = true) (AllP_cons (f4_3 fr es l many ho1 tk1 true) (AllP_cons (rfl : true = true) AllP_nil))))))))
theorem py1e_3 (fr : Nat → Fr) (es : List (Value × Bool × List DV)) (l : List (Int × Int)) (many : Int) (rows : List (List DV)) (g : Nat) (n : Int) (hf : fitsSpec [.one (.mp es), ordP fr 3] = some [pint 0]) (hcl : cloneSpec [ordP fr 3] = some [ordP fr 3]) (hn : (rows.length : Int) = n) (h52 : (n == many) = false) (hfp : false = false ∧ g = g ∧ fitsP rows.length 1 24) (oa1 : AV) (ho1 : OutOK oa1) (tk1 : List (Nat × Nat)) (h21 : ((rowsP l).length : Int) = ((l.length : Nat) : Int))
    (hl : Ev C9 noO (.code 48 false (loopOf Try.prog 48 0) { σ := fS l 0 3, h := (hO 3 4 4 3 fr es l many (.st 1 (rows ++ [[(.sl 2 false (fr 3).r)]]) (site 24 56) (g + 1 + 1)) [(site 24 56, g + 1 + 1)] false) }) (.code (.exit 0) { σ := slots 47 [], h := (hO 3 4 4 3 fr es l many oa1 tk1 false) })) : Ev C9 noO (.call 48 (args48 3) (hO 3 4 3 3 fr es l many (.st 1 rows (site 24 56) g) [(site 24 56, g)] false)) (.val unitA (hO 3 4 3 3 fr es l many oa1 tk1 false)) :=
  symCT_ev (n := 200) (sc := [(site 48 11, Dec.prim [pint 0]), (site 48 16, Dec.prim [ordP fr 3]), (site 24 50, Dec.int n), (site 24 52, Dec.b false), (site 24 56, Dec.app false), (site 48 21, Dec.int ((l.length : Nat) : Int)), (site 48 8001, Dec.loop [1, 2, 3, 4, 20, 21, 22] (.exit 0) { σ := slots 47 [], h := (hO 3 4 4 3 fr es l many oa1 tk1 false) })]) (keep := []) (L := [(site 48 4, 3)]) (sc' := []) (by kernel_rfl) (AllP_cons hf (AllP_cons hcl (AllP_cons hn (AllP_cons h52 (AllP_cons hfp (AllP_cons h21 (AllP_cons hl (AllP_cons (rfl : true = true) (AllP_cons (f4_3 fr es l many ho1 tk1 false) (AllP_cons (rfl : true = true) AllP_nil))))))))))
theorem py1r_3 (fr : Nat → Fr) (es : List (Value × Bool × List DV)) (l : List (Int × Int)) (many : Int) (rows : List (List DV)) (g : Nat) (n : Int) (hf : fitsSpec [.one (.mp es), ordP fr 3] = some [pint 0]) (hcl : cloneSpec [ordP fr 3] = some [ordP fr 3]) (hn : (rows.length : Int) = n) (h52 : (n == many) = false) (hfp : false = false ∧ g = g ∧ fitsP rows.length 1 24) (oa1 : AV) (ho1 : OutOK oa1) (tk1 : List (Nat × Nat)) (h21 : ((rowsP l).length : Int) = ((l.length : Nat) : Int))
    (hl : Ev C9 noO (.code 48 false (loopOf Try.prog 48 0) { σ := fS l 0 3, h := (hO 3 4 4 3 fr es l many (.st 1 (rows ++ [[(.sl 2 false (fr 3).r)]]) (site 24 56) (g + 1 + 1)) [(site 24 56, g + 1 + 1)] false) }) (.code .ret { σ := slots 47 [], h := (hO 3 4 4 3 fr es l many oa1 tk1 true) })) : Ev C9 noO (.call 48 (args48 3) (hO 3 4 3 3 fr es l many (.st 1 rows (site 24 56) g) [(site 24 56, g)] false)) (.val unitA (hO 3 4 3 3 fr es l many oa1 tk1 true)) :=
  symCT_ev (n := 200) (sc := [(site 48 11, Dec.prim [pint 0]), (site 48 16, Dec.prim [ordP fr 3]), (site 24 50, Dec.int n), (site 24 52, Dec.b false), (site 24 56, Dec.app false), (site 48 21, Dec.int ((l.length : Nat) : Int)), (site 48 8001, Dec.loop [1, 2, 3, 4, 20, 21, 22] .ret { σ := slots 47 [], h := (hO 3 4 4 3 fr es l many oa1 tk1 true) })]) (keep := []) (L := [(site 48 4, 3)]) (sc' := []) (by kernel_rfl) (AllP_cons hf (AllP_cons hcl (AllP_cons hn (AllP_cons h52 (AllP_cons hfp (AllP_cons h21 (AllP_cons hl (AllP_cons (rfl : true = true) (AllP_cons (f4_3 fr es l many ho1 tk1 true) (AllP_cons (rfl : true = true) AllP_nil))))))))))
theorem pb0_3 (fr : Nat → Fr) (es : List (Value × Bool × List DV)) (l : List (Int × Int)) (many : Int) (hf : fitsSpec [.one (.mp es), ordP fr 3] = some [pint 0]) (hcl : cloneSpec [ordP fr 3] = some [ordP fr 3]) (h52 : ((0 : Int) == many) = true) : Ev C9 noO (.call 48 (args48 3) (hO 3 4 3 3 fr es l many (.d (.v (.slice none 0 0))) [] false)) (.val unitA (hO 3 4 3 3 fr es l many (.d (.v (.slice none 0 0))) [] true)) :=
  symCT_ev (n := 200) (sc := [(site 48 11, Dec.prim [pint 0]), (site 48 16, Dec.prim [ordP fr 3]), (site 24 52, Dec.b true)]) (keep := []) (L := [(site 48 4, 3)]) (sc' := []) (by kernel_rfl) (AllP_cons hf (AllP_cons hcl (AllP_cons h52 (AllP_cons (rfl : true = true) (AllP_cons (rfl : true = true) (AllP_cons (rfl : true = true) AllP_nil))))))
theorem pb1_3 (fr : Nat → Fr) (es : List (Value × Bool × List DV)) (l : List (Int × Int)) (many : Int) (rows : List (List DV)) (g : Nat) (n : Int) (hf : fitsSpec [.one (.mp es), ordP fr 3] = some [pint 0]) (hcl : cloneSpec [ordP fr 3] = some [ordP fr 3]) (hn : (rows.length : Int) = n) (h52 : (n == many) = true) : Ev C9 noO (.call 48 (args48 3) (hO 3 4 3 3 fr es l many (.st 1 rows (site 24 56) g) [(site 24 56, g)] false)) (.val unitA (hO 3 4 3 3 fr es l many (.st 1 rows (site 24 56) g) [(site 24 56, g)] true)) :=
  symCT_ev (n := 200) (sc := [(site 48 11, Dec.prim [pint 0]), (site 48 16, Dec.prim [ordP fr 3]), (site 24 50, Dec.int n), (site 24 52, Dec.b true)]) (keep := []) (L := [(site 48 4, 3)]) (sc' := []) (by kernel_rfl) (AllP_cons hf (AllP_cons hcl (AllP_cons hn (AllP_cons h52 (AllP_cons (rfl : true = true) (AllP_cons (rfl : true = true) (AllP_cons (rfl : true = true) AllP_nil)))))))

end Go.Ev

namespace Go.Ev
open Go Go.RowKit Go.Proofs

theorem f6_4 (fr : Nat → Fr) (es : List (Value × Bool × List DV)) (l : List (Int × Int)) (many : Int) {oa : AV} (ho : OutOK oa) (tk : List (Nat × Nat)) (brk : Bool) : ((hO 4 5 5 4 fr es l many oa tk brk).objs.all fun e => e.2.2.all (objFreeT [(site 48 6, 4)])) = true := by
  rcases ho with rfl | ⟨_, _, rfl⟩ <;> kernel_rfl
theorem f5_4 (fr : Nat → Fr) (es : List (Value × Bool × List DV)) (l : List (Int × Int)) (many : Int) {oa : AV} (ho : OutOK oa) (tk : List (Nat × Nat)) (brk : Bool) : ((hO 4 5 5 4 fr es l many oa tk brk).objs.all fun e => e.2.2.all (objFreeT [(site 40 3, 5), (site 40 4, 5), (site 40 5, 5), (site 48 6, 4), (loopSite 48, 4)])) = true := by
  rcases ho with rfl | ⟨_, _, rfl⟩ <;> kernel_rfl
theorem q0_4 (fr : Nat → Fr) (es : List (Value × Bool × List DV)) (l : List (Int × Int)) (many : Int) (oa : AV) (tk : List (Nat × Nat)) (i : Int) (h1 : decide (i < ((l.length : Nat) : Int)) = false) :
    Ev C9 noO (.code 48 false (loopOf Try.prog 48 0) { σ := fS l i 4, h := (hO 4 5 5 4 fr es l many oa tk false) }) (.code (.exit 0) { σ := slots 47 [], h := (hO 4 5 5 4 fr es l many oa tk false) }) :=
  symM_ev (n := 60) (sc := [(site 48 23, Dec.b false)]) (keep := []) (sc' := []) (by kernel_rfl) (AllP_cons h1 AllP_nil)
theorem q1_4 (fr : Nat → Fr) (es : List (Value × Bool × List DV)) (l : List (Int × Int)) (many : Int) (oa : AV) (ho : OutOK oa) (tk : List (Nat × Nat)) (i i1 : Int) (c : Int × Int) (x : X) (s : St) (h1 : decide (i < ((l.length : Nat) : Int)) = true) (h2 : 0 ≤ i ∧ (rowsP l)[i.toNat]? = some (rowC c)) (h3 : containsSpec [ordP fr 4, .agg (rowC c)] = some [pbool true]) (h4 : wr64 (i + 1) = i1)
    (h5 : Ev C9 noO (.code 48 false (loopOf Try.prog 48 0) { σ := fS l i1 4, h := (hO 4 5 5 4 fr es l many oa tk false) }) (.code x s)) : Ev C9 noO (.code 48 false (loopOf Try.prog 48 0) { σ := fS l i 4, h := (hO 4 5 5 4 fr es l many oa tk false) }) (.code x s) :=
  sym_ev 60 _ [(site 48 23, Dec.b true), (site 48 24, Dec.row (rowC c)), (site 48 28, Dec.prim [pbool true]), (site 48 46, Dec.int i1), (site 48 8002, Dec.trunc [(site 48 6, 4)] [1, 2, 3, 4, 20, 21, 22]), (site 48 8001, Dec.loop [1, 2, 3, 4, 20, 21, 22] x s)] _ [] _ (by kernel_rfl) (AllP_cons h1 (AllP_cons h2 (AllP_cons h3 (AllP_cons h4 (AllP_cons (rfl : true = true) (AllP_cons (f6_4 fr es l many ho tk false) (AllP_cons (rfl : true = true) (AllP_cons h5 AllP_nil))))))))
theorem q2_4 (fr : Nat → Fr) (es : List (Value × Bool × List DV)) (l : List (Int × Int)) (many : Int) (oa : AV) (ho : OutOK oa) (tk : List (Nat × Nat)) (i i1 : Int) (c : Int × Int) (x : X) (s : St) (h1 : decide (i < ((l.length : Nat) : Int)) = true) (h2 : 0 ≤ i ∧ (rowsP l)[i.toNat]? = some (rowC c)) (h3 : containsSpec [ordP fr 4, .agg (rowC c)] = some [pbool false])
    (hc : Ev C9 noO (.call 52 [lA l, blkF 4] (hO 4 5 5 5 (updC fr 4 c i) es l many oa tk false)) (.val (vb true) (hO 4 5 5 5 (updC fr 4 c i) es l many oa tk false))) (h4 : wr64 (i + 1) = i1)
    (h5 : Ev C9 noO (.code 48 false (loopOf Try.prog 48 0) { σ := fS l i1 4, h := (hO 4 5 5 4 fr es l many oa tk false) }) (.code x s)) : Ev C9 noO (.code 48 false (loopOf Try.prog 48 0) { σ := fS l i 4, h := (hO 4 5 5 4 fr es l many oa tk false) }) (.code x s) :=
  sym_ev 60 _ [(site 48 23, Dec.b true), (site 48 24, Dec.row (rowC c)), (site 48 28, Dec.prim [pbool false]), (site 48 32, Dec.call (vb true) (hO 4 5 5 5 (updC fr 4 c i) es l many oa tk false)), (site 48 46, Dec.int i1), (site 48 8002, Dec.trunc [(site 48 6, 4)] [1, 2, 3, 4, 20, 21, 22]), (site 48 8001, Dec.loop [1, 2, 3, 4, 20, 21, 22] x s)] _ [] _ (by kernel_rfl) (AllP_cons h1 (AllP_cons h2 (AllP_cons h3 (AllP_cons hc (AllP_cons h4 (AllP_cons (rfl : true = true) (AllP_cons (f6_4 fr es l many ho tk false) (AllP_cons (rfl : true = true) (AllP_cons h5 AllP_nil)))))))))
theorem q3_4 (fr : Nat → Fr) (es : List (Value × Bool × List DV)) (l : List (Int × Int)) (many : Int) (oa oa1 : AV) (ho1 : OutOK oa1) (tk tk1 : List (Nat × Nat)) (i i1 : Int) (c : Int × Int) (x : X) (s : St) (h1 : decide (i < ((l.length : Nat) : Int)) = true) (h2 : 0 ≤ i ∧ (rowsP l)[i.toNat]? = some (rowC c)) (h3 : containsSpec [ordP fr 4, .agg (rowC c)] = some [pbool false])
    (hc : Ev C9 noO (.call 52 [lA l, blkF 4] (hO 4 5 5 5 (updC fr 4 c i) es l many oa tk false)) (.val (vb false) (hO 4 5 5 5 (updC fr 4 c i) es l many oa tk false))) (hf : false = false ∧ fitsP ((fr 4).r).length 1 16)
    (he : Ev C9 noO (.call 48 (args48 5) (hO 5 6 5 5 (updO fr 4 c i ((fr 4).r ++ [rowC c])) es l many oa tk false)) (.val unitA (hO 5 6 5 5 (updO fr 4 c i ((fr 4).r ++ [rowC c])) es l many oa1 tk1 false))) (h4 : wr64 (i + 1) = i1)
    (h5 : Ev C9 noO (.code 48 false (loopOf Try.prog 48 0) { σ := fS l i1 4, h := (hO 4 5 5 4 fr es l many oa1 tk1 false) }) (.code x s)) : Ev C9 noO (.code 48 false (loopOf Try.prog 48 0) { σ := fS l i 4, h := (hO 4 5 5 4 fr es l many oa tk false) }) (.code x s) :=
  sym_ev 60 _ [(site 48 23, Dec.b true), (site 48 24, Dec.row (rowC c)), (site 48 28, Dec.prim [pbool false]), (site 48 32, Dec.call (vb false) (hO 4 5 5 5 (updC fr 4 c i) es l many oa tk false)), (site 48 39, Dec.app false), (site 48 8003, Dec.rng [1, 2, 3, 4, 20, 21, 22, 40] unitA (hO 5 6 5 5 (updO fr 4 c i ((fr 4).r ++ [rowC c])) es l many oa1 tk1 false)), (site 48 46, Dec.int i1), (site 48 8002, Dec.trunc [(site 40 3, 5), (site 40 4, 5), (site 40 5, 5), (site 48 6, 4), (loopSite 48, 4)] [1, 2, 3, 4, 20, 21, 22]), (site 48 8001, Dec.loop [1, 2, 3, 4, 20, 21, 22] x s)] _ [] _ (by kernel_rfl) (AllP_cons h1 (AllP_cons h2 (AllP_cons h3 (AllP_cons hc (AllP_cons hf (AllP_cons he (AllP_cons h4 (AllP_cons (rfl : true = true) (AllP_cons (f5_4 fr es l many ho1 tk1 false) (AllP_cons (rfl : true = true) (AllP_cons h5 AllP_nil)))))))))))
theorem q4_4 (fr : Nat → Fr) (es : List (Value × Bool × List DV)) (l : List (Int × Int)) (many : Int) (oa oa1 : AV) (ho1 : OutOK oa1) (tk tk1 : List (Nat × Nat)) (i i1 : Int) (c : Int × Int) (x : X) (s : St) (h1 : decide (i < ((l.length : Nat) : Int)) = true) (h2 : 0 ≤ i ∧ (rowsP l)[i.toNat]? = some (rowC c)) (h3 : containsSpec [ordP fr 4, .agg (rowC c)] = some [pbool false])
    (hc : Ev C9 noO (.call 52 [lA l, blkF 4] (hO 4 5 5 5 (updC fr 4 c i) es l many oa tk false)) (.val (vb false) (hO 4 5 5 5 (updC fr 4 c i) es l many oa tk false))) (hf : false = false ∧ fitsP ((fr 4).r).length 1 16)
    (he : Ev C9 noO (.call 48 (args48 5) (hO 5 6 5 5 (updO fr 4 c i ((fr 4).r ++ [rowC c])) es l many oa tk false)) (.val unitA (hO 5 6 5 5 (updO fr 4 c i ((fr 4).r ++ [rowC c])) es l many oa1 tk1 true))) : Ev C9 noO (.code 48 false (loopOf Try.prog 48 0) { σ := fS l i 4, h := (hO 4 5 5 4 fr es l many oa tk false) }) (.code .ret { σ := slots 47 [], h := (hO 4 5 5 4 fr es l many oa1 tk1 true) }) :=
  symT_ev (n := 60) (sc := [(site 48 23, Dec.b true), (site 48 24, Dec.row (rowC c)), (site 48 28, Dec.prim [pbool false]), (site 48 32, Dec.call (vb false) (hO 4 5 5 5 (updC fr 4 c i) es l many oa tk false)), (site 48 39, Dec.app false), (site 48 8003, Dec.rng [1, 2, 3, 4, 20, 21, 22, 40] unitA (hO 5 6 5 5 (updO fr 4 c i ((fr 4).r ++ [rowC c])) es l many oa1 tk1 true))]) (keep := []) (L := [(site 40 3, 5), (site 40 4, 5), (site 40 5, 5), (site 48 6, 4), (loopSite 48, 4)]) (sc' := []) (by kernel_rfl) (AllP_cons h1 (AllP_cons h2 (AllP_cons h3 (AllP_cons hc (AllP_cons hf (AllP_cons he (AllP_cons (rfl : true = true) (AllP_cons (f5_4 fr es l many ho1 tk1 true) (AllP_cons (rfl : true = true) AllP_nil)))))))))
theorem f1_4 (fr : Nat → Fr) (es : List (Value × Bool × List DV)) (l : List (Int × Int)) (many : Int) {oa : AV} (ho : OutOK oa) (tk : List (Nat × Nat)) : ((hO 4 5 5 5 fr es l many oa tk false).objs.all fun e => e.2.2.all (objFreeT [(site 51 4, 0)])) = true := by
  rcases ho with rfl | ⟨_, _, rfl⟩ <;> kernel_rfl
theorem r0_4 (fr : Nat → Fr) (es : List (Value × Bool × List DV)) (l : List (Int × Int)) (many : Int) (oa : AV) (tk : List (Nat × Nat)) (i : Int) (h1 : decide (i < ((l.length : Nat) : Int)) = false) :
    Ev C9 noO (.code 66 false (loopOf Try.prog 66 0) { σ := slots 19 [(0, lA l), (1, blkF 4), (7, vi ((l.length : Nat) : Int)), (8, vi i)], h := (hO 4 5 5 5 fr es l many oa tk false) }) (.code (.exit 0) { σ := slots 19 [], h := (hO 4 5 5 5 fr es l many oa tk false) }) :=
  symM_ev (n := 60) (sc := [(site 66 9, Dec.b false)]) (keep := []) (sc' := []) (by kernel_rfl) (AllP_cons h1 AllP_nil)
theorem r1_4 (fr : Nat → Fr) (es : List (Value × Bool × List DV)) (l : List (Int × Int)) (many : Int) (oa : AV) (tk : List (Nat × Nat)) (i i1 : Int) (y : Int × Int) (ho : OutOK oa) (x : X) (s : St) (h1 : decide (i < ((l.length : Nat) : Int)) = true) (h2 : 0 ≤ i ∧ (rowsP l)[i.toNat]? = some (rowC y)) (h3 : containsSpec [ordP fr 4, .agg (rowC y)] = some [pbool true]) (h4 : wr64 (i + 1) = i1)
    (h5 : Ev C9 noO (.code 66 false (loopOf Try.prog 66 0) { σ := slots 19 [(0, lA l), (1, blkF 4), (7, vi ((l.length : Nat) : Int)), (8, vi i1)], h := (hO 4 5 5 5 fr es l many oa tk false) }) (.code x s)) : Ev C9 noO (.code 66 false (loopOf Try.prog 66 0) { σ := slots 19 [(0, lA l), (1, blkF 4), (7, vi ((l.length : Nat) : Int)), (8, vi i)], h := (hO 4 5 5 5 fr es l many oa tk false) }) (.code x s) :=
  sym_ev 60 _ [(site 66 9, Dec.b true), (site 66 14, Dec.row (rowC y)), (site 51 8, Dec.prim [pbool true]), (site 66 18, Dec.int i1), (site 66 8002, Dec.trunc [(site 51 4, 0)] [0, 1, 7, 8]), (site 66 8001, Dec.loop [0, 1, 7, 8] x s)] _ [] _ (by kernel_rfl) (AllP_cons h1 (AllP_cons h2 (AllP_cons h3 (AllP_cons h4 (AllP_cons (rfl : true = true) (AllP_cons (f1_4 fr es l many ho tk) (AllP_cons (rfl : true = true) (AllP_cons h5 AllP_nil))))))))
theorem r2_4 (fr : Nat → Fr) (es : List (Value × Bool × List DV)) (l : List (Int × Int)) (many : Int) (oa : AV) (tk : List (Nat × Nat)) (i i1 : Int) (y : Int × Int) (ho : OutOK oa) (x : X) (s : St) (h1 : decide (i < ((l.length : Nat) : Int)) = true) (h2 : 0 ≤ i ∧ (rowsP l)[i.toNat]? = some (rowC y)) (h3 : containsSpec [ordP fr 4, .agg (rowC y)] = some [pbool false]) (u v : Int × Int) (h4 : lookupIn C9 59 es (.agg [vi y.1, vi y.2]) false = some (.agg [vi u.1, vi u.2])) (h5 : lookupIn C9 59 es (.agg [vi (fr 4).c.1, vi (fr 4).c.2]) false = some (.agg [vi v.1, vi v.2])) (h6 : aheadSpec [.agg (rowC u), .agg (rowC v)] = some [pbool false]) (h7 : wr64 (i + 1) = i1)
    (h8 : Ev C9 noO (.code 66 false (loopOf Try.prog 66 0) { σ := slots 19 [(0, lA l), (1, blkF 4), (7, vi ((l.length : Nat) : Int)), (8, vi i1)], h := (hO 4 5 5 5 fr es l many oa tk false) }) (.code x s)) : Ev C9 noO (.code 66 false (loopOf Try.prog 66 0) { σ := slots 19 [(0, lA l), (1, blkF 4), (7, vi ((l.length : Nat) : Int)), (8, vi i)], h := (hO 4 5 5 5 fr es l many oa tk false) }) (.code x s) :=
  sym_ev 60 _ [(site 66 9, Dec.b true), (site 66 14, Dec.row (rowC y)), (site 51 8, Dec.prim [pbool false]), (site 51 13, Dec.look (.agg [vi u.1, vi u.2])), (site 51 16, Dec.look (.agg [vi v.1, vi v.2])), (site 51 17, Dec.prim [pbool false]), (site 66 18, Dec.int i1), (site 66 8002, Dec.trunc [(site 51 4, 0)] [0, 1, 7, 8]), (site 66 8001, Dec.loop [0, 1, 7, 8] x s)] _ [] _ (by kernel_rfl) (AllP_cons h1 (AllP_cons h2 (AllP_cons h3 (AllP_cons h4 (AllP_cons h5 (AllP_cons h6 (AllP_cons h7 (AllP_cons (rfl : true = true) (AllP_cons (f1_4 fr es l many ho tk) (AllP_cons (rfl : true = true) (AllP_cons h8 AllP_nil)))))))))))
theorem r3_4 (fr : Nat → Fr) (es : List (Value × Bool × List DV)) (l : List (Int × Int)) (many : Int) (oa : AV) (tk : List (Nat × Nat)) (i i1 : Int) (y : Int × Int) (ho : OutOK oa) (h1 : decide (i < ((l.length : Nat) : Int)) = true) (h2 : 0 ≤ i ∧ (rowsP l)[i.toNat]? = some (rowC y)) (h3 : containsSpec [ordP fr 4, .agg (rowC y)] = some [pbool false]) (u v : Int × Int) (h4 : lookupIn C9 59 es (.agg [vi y.1, vi y.2]) false = some (.agg [vi u.1, vi u.2])) (h5 : lookupIn C9 59 es (.agg [vi (fr 4).c.1, vi (fr 4).c.2]) false = some (.agg [vi v.1, vi v.2])) (h6 : aheadSpec [.agg (rowC u), .agg (rowC v)] = some [pbool true]) :
    Ev C9 noO (.code 66 false (loopOf Try.prog 66 0) { σ := slots 19 [(0, lA l), (1, blkF 4), (7, vi ((l.length : Nat) : Int)), (8, vi i)], h := (hO 4 5 5 5 fr es l many oa tk false) }) (.code .ret { σ := slots 19 [(4, vi i)], h := (hO 4 5 5 5 fr es l many oa tk false) }) :=
  symT_ev (n := 60) (sc := [(site 66 9, Dec.b true), (site 66 14, Dec.row (rowC y)), (site 51 8, Dec.prim [pbool false]), (site 51 13, Dec.look (.agg [vi u.1, vi u.2])), (site 51 16, Dec.look (.agg [vi v.1, vi v.2])), (site 51 17, Dec.prim [pbool true])]) (keep := [4]) (L := [(site 51 4, 0)]) (sc' := []) (by kernel_rfl) (AllP_cons h1 (AllP_cons h2 (AllP_cons h3 (AllP_cons h4 (AllP_cons h5 (AllP_cons h6 (AllP_cons (rfl : true = true) (AllP_cons (f1_4 fr es l many ho tk) (AllP_cons (rfl : true = true) AllP_nil)))))))))
theorem cf_n_4 (fr : Nat → Fr) (es : List (Value × Bool × List DV)) (l : List (Int × Int)) (many : Int) (oa : AV) (tk : List (Nat × Nat)) (h1 : ((rowsP l).length : Int) = ((l.length : Nat) : Int)) (h : Ev C9 noO (.code 66 false (loopOf Try.prog 66 0) { σ := slots 19 [(0, lA l), (1, blkF 4), (7, vi ((l.length : Nat) : Int)), (8, vi 0)], h := (hO 4 5 5 5 fr es l many oa tk false) }) (.code (.exit 0) { σ := slots 19 [], h := (hO 4 5 5 5 fr es l many oa tk false) })) :
    Ev C9 noO (.call 52 [lA l, blkF 4] (hO 4 5 5 5 fr es l many oa tk false)) (.val (vb false) (hO 4 5 5 5 fr es l many oa tk false)) :=
  sym_ev 60 _ [(site 66 7, Dec.int ((l.length : Nat) : Int)), (site 66 8001, Dec.loop [0, 1, 7, 8] (.exit 0) { σ := slots 19 [], h := (hO 4 5 5 5 fr es l many oa tk false) })] _ [] _ (by kernel_rfl) (AllP_cons h1 (AllP_cons h AllP_nil))
theorem cf_y_4 (fr : Nat → Fr) (es : List (Value × Bool × List DV)) (l : List (Int × Int)) (many : Int) (oa : AV) (tk : List (Nat × Nat)) (i : Int) (h1 : ((rowsP l).length : Int) = ((l.length : Nat) : Int)) (h : Ev C9 noO (.code 66 false (loopOf Try.prog 66 0) { σ := slots 19 [(0, lA l), (1, blkF 4), (7, vi ((l.length : Nat) : Int)), (8, vi 0)], h := (hO 4 5 5 5 fr es l many oa tk false) }) (.code .ret { σ := slots 19 [(4, vi i)], h := (hO 4 5 5 5 fr es l many oa tk false) })) (h0 : decide (i ≥ 0) = true) :
    Ev C9 noO (.call 52 [lA l, blkF 4] (hO 4 5 5 5 fr es l many oa tk false)) (.val (vb true) (hO 4 5 5 5 fr es l many oa tk false)) :=
  sym_ev 60 _ [(site 66 7, Dec.int ((l.length : Nat) : Int)), (site 66 8001, Dec.loop [0, 1, 7, 8] .ret { σ := slots 19 [(4, vi i)], h := (hO 4 5 5 5 fr es l many oa tk false) }), (site 52 8, Dec.b true)] _ [] _ (by kernel_rfl) (AllP_cons h1 (AllP_cons h (AllP_cons h0 AllP_nil)))
theorem f4_4 (fr : Nat → Fr) (es : List (Value × Bool × List DV)) (l : List (Int × Int)) (many : Int) {oa : AV} (ho : OutOK oa) (tk : List (Nat × Nat)) (brk : Bool) : ((hO 4 5 4 4 fr es l many oa tk brk).objs.all fun e => e.2.2.all (objFreeT [(site 48 4, 4)])) = true := by
  rcases ho with rfl | ⟨_, _, rfl⟩ <;> kernel_rfl
theorem pne_4 (fr : Nat → Fr) (es : List (Value × Bool × List DV)) (l : List (Int × Int)) (many : Int) (oa : AV) (tk : List (Nat × Nat)) (k : Int) (hf : fitsSpec [.one (.mp es), ordP fr 4] = some [pint k]) (h0 : (k == 0) = false) (oa1 : AV) (ho1 : OutOK oa1) (tk1 : List (Nat × Nat)) (h21 : ((rowsP l).length : Int) = ((l.length : Nat) : Int))
    (hl : Ev C9 noO (.code 48 false (loopOf Try.prog 48 0) { σ := fS l 0 4, h := (hO 4 5 5 4 fr es l many oa tk false) }) (.code (.exit 0) { σ := slots 47 [], h := (hO 4 5 5 4 fr es l many oa1 tk1 false) })) : Ev C9 noO (.call 48 (args48 4) (hO 4 5 4 4 fr es l many oa tk false)) (.val unitA (hO 4 5 4 4 fr es l many oa1 tk1 false)) :=
  symCT_ev (n := 200) (sc := [(site 48 11, Dec.prim [pint k]), (site 48 12, Dec.b false), (site 48 21, Dec.int ((l.length : Nat) : Int)), (site 48 8001, Dec.loop [1, 2, 3, 4, 20, 21, 22] (.exit 0) { σ := slots 47 [], h := (hO 4 5 5 4 fr es l many oa1 tk1 false) })]) (keep := []) (L := [(site 48 4, 4)]) (sc' := []) (by kernel_rfl) (AllP_cons hf (AllP_cons h0 (AllP_cons h21 (AllP_cons hl (AllP_cons (rfl : true = true) (AllP_cons (f4_4 fr es l many ho1 tk1 false) (AllP_cons (rfl : true = true) AllP_nil)))))))
theorem pnr_4 (fr : Nat → Fr) (es : List (Value × Bool × List DV)) (l : List (Int × Int)) (many : Int) (oa : AV) (tk : List (Nat × Nat)) (k : Int) (hf : fitsSpec [.one (.mp es), ordP fr 4] = some [pint k]) (h0 : (k == 0) = false) (oa1 : AV) (ho1 : OutOK oa1) (tk1 : List (Nat × Nat)) (h21 : ((rowsP l).length : Int) = ((l.length : Nat) : Int))
    (hl : Ev C9 noO (.code 48 false (loopOf Try.prog 48 0) { σ := fS l 0 4, h := (hO 4 5 5 4 fr es l many oa tk false) }) (.code .ret { σ := slots 47 [], h := (hO 4 5 5 4 fr es l many oa1 tk1 true) })) : Ev C9 noO (.call 48 (args48 4) (hO 4 5 4 4 fr es l many oa tk false)) (.val unitA (hO 4 5 4 4 fr es l many oa1 tk1 true)) :=
  symCT_ev (n := 200) (sc := [(site 48 11, Dec.prim [pint k]), (site 48 12, Dec.b false), (site 48 21, Dec.int ((l.length : Nat) : Int)), (site 48 8001, Dec.loop [1, 2, 3, 4, 20, 21, 22] .ret { σ := slots 47 [], h := (hO 4 5 5 4 fr es l many oa1 tk1 true) })]) (keep := []) (L := [(site 48 4, 4)]) (sc' := []) (by kernel_rfl) (AllP_cons hf (AllP_cons h0 (AllP_cons h21 (AllP_cons hl (AllP_cons (rfl : true = true) (AllP_cons (f4_4 fr es l many ho1 tk1 true) (AllP_cons (rfl : true = true) AllP_nil)))))))
theorem py0e_4 (fr : Nat → Fr) (es : List (Value × Bool × List DV)) (l : List (Int × Int)) (many : Int) (hf : fitsSpec [.one (.mp es), ordP fr 4] = some [pint 0]) (hcl : cloneSpec [ordP fr 4] = some [ordP fr 4]) (h52 : ((0 : Int) == many) = false) (oa1 : AV) (ho1 : OutOK oa1) (tk1 : List (Nat × Nat)) (h21 : ((rowsP l).length : Int) = ((l.length : Nat) : Int))
    (hl : Ev C9 noO (.code 48 false (loopOf Try.prog 48 0) { σ := fS l 0 4, h := (hO 4 5 5 4 fr es l many (.st 1 [[(.sl 2 false (fr 4).r)]] (site 24 56) 1) [(site 24 56, 1)] false) }) (.code (.exit 0) { σ := slots 47 [], h := (hO 4 5 5 4 fr es l many oa1 tk1 false) })) : Ev C9 noO (.call 48 (args48 4) (hO 4 5 4 4 fr es l many (.d (.v (.slice none 0 0))) [] false)) (.val unitA (hO 4 5 4 4 fr es l many oa1 tk1 false)) :=
  symCT_ev (n := 200) (sc := [(site 48 11, Dec.prim [pint 0]), (site 48 16, Dec.prim [ordP fr 4]), (site 24 52, Dec.b false), (site 48 21, Dec.int ((l.length : Nat) : Int)), (site 48 8001, Dec.loop [1, 2, 3, 4, 20, 21, 22] (.exit 0) { σ := slots 47 [], h := (hO 4 5 5 4 fr es l many oa1 tk1 false) })]) (keep := []) (L := [(site 48 4, 4)]) (sc' := []) (by kernel_rfl) (AllP_cons hf (AllP_cons hcl (AllP_cons h52 (AllP_cons h21 (AllP_cons hl (AllP_cons (rfl : true = true) (AllP_cons (f4_4 fr es l many ho1 tk1 false) (AllP_cons (rfl : true = true) AllP_nil))))))))
theorem py0r_4 (fr : Nat → Fr) (es : List (Value × Bool × List DV)) (l : List (Int × Int)) (many : Int) (hf : fitsSpec [.one (.mp es), ordP fr 4] = some [pint 0]) (hcl : cloneSpec [ordP fr 4] = some [ordP fr 4]) (h52 : ((0 : Int) == many) = false) (oa1 : AV) (ho1 : OutOK oa1) (tk1 : List (Nat × Nat)) (h21 : ((rowsP l).length : Int) = ((l.length : Nat) : Int))
    (hl : Ev C9 noO (.code 48 false (loopOf Try.prog 48 0) { σ := fS l 0 4, h := (hO 4 5 5 4 fr es l many (.st 1 [[(.sl 2 false (fr 4).r)]] (site 24 56) 1) [(site 24 56, 1)] false) }) (.code .ret { σ := slots 47 [], h := (hO 4 5 5 4 fr es l many oa1 tk1 true) })) : Ev C9 noO (.call 48 (args48 4) (hO 4 5 4 4 fr es l many (.d (.v (.slice none 0 0))) [] false)) (.val unitA (hO 4 5 4 4 fr es l many oa1 tk1 true)) :=
  symCT_ev (n := 200) (sc := [(site 48 11, Dec.prim [pint 0]), (site 48 16, Dec.prim [ordP fr 4]), (site 24 52, Dec.b false), (site 48 21, Dec.int ((l.length : Nat) : Int)), (site 48 8001, Dec.loop [1, 2, 3, 4, 20, 21, 22] .ret { σ := slots 47 [], h := (hO 4 5 5 4 fr es l many oa1 tk1 true) })]) (keep := []) (L := [(site 48 4, 4)]) (sc' := []) (by kernel_rfl) (AllP_cons hf (AllP_cons hcl (AllP_cons h52 (AllP_cons h21 (AllP_cons hl (AllP_cons (rfl : true = true) (AllP_cons (f4_4 fr es l many ho1 tk1 true) (AllP_cons (rfl : true = true) AllP_nil))))))))
theorem py1e_4 (fr : Nat → Fr) (es : List (Value × Bool × List DV)) (l : List (Int × Int)) (many : Int) (rows : List (List DV)) (g : Nat) (n : Int) (hf : fitsSpec [.one (.mp es), ordP fr 4] = some [pint 0]) (hcl : cloneSpec [ordP fr 4] = some [ordP fr 4]) (hn : (rows.length : Int) = n) (h52 : (n == many) = false) (hfp : false = false ∧ g = g ∧ fitsP rows.length 1 24) (oa1 : AV) (ho1 : OutOK oa1) (tk1 : List (Nat × Nat)) (h21 : ((rowsP l).length : Int) = ((l.length : Nat) : Int))
    (hl : Ev C9 noO (.code 48 false (loopOf Try.prog 48 0) { σ := fS l 0 4, h := (hO 4 5 5 4 fr es l many (.st 1 (rows ++ [[(.sl 2 false (fr 4).r)]]) (site 24 56) (g + 1 + 1)) [(site 24 56, g + 1 + 1)] false) }) (.code (.exit 0) { σ := slots 47 [], h := (hO 4 5 5 4 fr es l many oa1 tk1 false) })) : Ev C9 noO (.call 48 (args48 4) (hO 4 5 4 4 fr es l many (.st 1 rows (site 24 56) g) [(site 24 56, g)] false)) (.val unitA (hO 4 5 4 4 fr es l many oa1 tk1 false)) :=
  symCT_ev (n := 200) (sc := [(site 48 11, Dec.prim [pint 0]), (site 48 16, Dec.prim [ordP fr 4]), (site 24 50, Dec.int n), (site 24 52, Dec.b false), (site 24 56, Dec.app false), (site 48 21, Dec.int ((l.length : Nat) : Int)), (site 48 8001, Dec.loop [1, 2, 3, 4, 20, 21, 22] (.exit 0) { σ := slots 47 [], h := (hO 4 5 5 4 fr es l many oa1 tk1 false) })]) (keep := []) (L := [(site 48 4, 4)]) (sc' := []) (by kernel_rfl) (AllP_cons hf (AllP_cons hcl (AllP_cons hn (AllP_cons h52 (AllP_cons hfp (AllP_cons h21 (AllP_cons hl (AllP_cons (rfl : true = true) (AllP_cons (f4_4 fr es l many ho1 tk1 false) (AllP_cons (rfl : true = true) AllP_nil))))))))))
theorem py1r_4 (fr : Nat → Fr) (es : List (Value × Bool × List DV)) (l : List (Int × Int)) (many : Int) (rows : List (List DV)) (g : Nat) (n : Int) (hf : fitsSpec [.one (.mp es), ordP fr 4] = some [pint 0]) (hcl : cloneSpec [ordP fr 4] = some [ordP fr 4]) (hn : (rows.length : Int) = n) (h52 : (n == many) = false) (hfp : false = false ∧ g = g ∧ fitsP rows.length 1 24) (oa1 : AV) (ho1 : OutOK oa1) (tk1 : List (Nat × Nat)) (h21 : ((rowsP l).length : Int) = ((l.length : Nat) : Int))
    (hl : Ev C9 noO (.code 48 false (loopOf Try.prog 48 0) { σ := fS l 0 4, h := (hO 4 5 5 4 fr es l many (.st 1 (rows ++ [[(.sl 2 false (fr 4).r)]]) (site 24 56) (g + 1 + 1)) [(site 24 56, g + 1 + 1)] false) }) (.code .ret { σ := slots 47 [], h := (hO 4 5 5 4 fr es l many oa1 tk1 true) })) : Ev C9 noO (.call 48 (args48 4) (hO 4 5 4 4 fr es l many (.st 1 rows (site 24 56) g) [(site 24 56, g)] false)) (.val unitA (hO 4 5 4 4 fr es l many oa1 tk1 true)) :=
  symCT_ev (n := 200) (sc := [(site 48 11, Dec.prim [pint 0]), (site 48 16, Dec.prim [ordP fr 4]), (site 24 50, Dec.int n), (site 24 52, Dec.b false), (site 24 56, Dec.app false), (site 48 21, Dec.int ((l.length : Nat) : Int)), (site 48 8001, Dec.loop [1, 2, 3, 4, 20, 21, 22] .ret { σ := slots 47 [], h := (hO 4 5 5 4 fr es l many oa1 tk1 true) })]) (keep := []) (L := [(site 48 4, 4)]) (sc' := []) (by kernel_rfl) (AllP_cons hf (AllP_cons hcl (AllP_cons hn (AllP_cons h52 (AllP_cons hfp (AllP_cons h21 (AllP_cons hl (AllP_cons (rfl : true = true) (AllP_cons (f4_4 fr es l many ho1 tk1 true) (AllP_cons (rfl : true = true) AllP_nil))))))))))
theorem pb0_4 (fr : Nat → Fr) (es : List (Value × Bool × List DV)) (l : List (Int × Int)) (many : Int) (hf : fitsSpec [.one (.mp es), ordP fr 4] = some [pint 0]) (hcl : cloneSpec [ordP fr 4] = some [ordP fr 4]) (h52 : ((0 : Int) == many) = true) : Ev C9 noO (.call 48 (args48 4) (hO 4 5 4 4 fr es l many (.d (.v (.slice none 0 0))) [] false)) (.val unitA (hO 4 5 4 4 fr es l many (.d (.v (.slice none 0 0))) [] true)) :=
  symCT_ev (n := 200) (sc := [(site 48 11, Dec.prim [pint 0]), (site 48 16, Dec.prim [ordP fr 4]), (site 24 52, Dec.b true)]) (keep := []) (L := [(site 48 4, 4)]) (sc' := []) (by kernel_rfl) (AllP_cons hf (AllP_cons hcl (AllP_cons h52 (AllP_cons (rfl : true = true) (AllP_cons (rfl : true = true) (AllP_cons (rfl : true = true) AllP_nil))))))
theorem pb1_4 (fr : Nat → Fr) (es : List (Value × Bool × List DV)) (l : List (Int × Int)) (many : Int) (rows : List (List DV)) (g : Nat) (n : Int) (hf : fitsSpec [.one (.mp es), ordP fr 4] = some [pint 0]) (hcl : cloneSpec [ordP fr 4] = some [ordP fr 4]) (hn : (rows.length : Int) = n) (h52 : (n == many) = true) : Ev C9 noO (.call 48 (args48 4) (hO 4 5 4 4 fr es l many (.st 1 rows (site 24 56) g) [(site 24 56, g)] false)) (.val unitA (hO 4 5 4 4 fr es l many (.st 1 rows (site 24 56) g) [(site 24 56, g)] true)) :=
  symCT_ev (n := 200) (sc := [(site 48 11, Dec.prim [pint 0]), (site 48 16, Dec.prim [ordP fr 4]), (site 24 50, Dec.int n), (site 24 52, Dec.b true)]) (keep := []) (L := [(site 48 4, 4)]) (sc' := []) (by kernel_rfl) (AllP_cons hf (AllP_cons hcl (AllP_cons hn (AllP_cons h52 (AllP_cons (rfl : true = true) (AllP_cons (rfl : true = true) (AllP_cons (rfl : true = true) AllP_nil)))))))

end Go.Ev

namespace Go.Ev
open Go Go.RowKit Go.Proofs

theorem f6_5 (fr : Nat → Fr) (es : List (Value × Bool × List DV)) (l : List (Int × Int)) (many : Int) {oa : AV} (ho : OutOK oa) (tk : List (Nat × Nat)) (brk : Bool) : ((hO 5 6 6 5 fr es l many oa tk brk).objs.all fun e => e.2.2.all (objFreeT [(site 48 6, 5)])) = true := by
  rcases ho with rfl | ⟨_, _, rfl⟩ <;> kernel_rfl
theorem f5_5 (fr : Nat → Fr) (es : List (Value × Bool × List DV)) (l : List (Int × Int)) (many : Int) {oa : AV} (ho : OutOK oa) (tk : List (Nat × Nat)) (brk : Bool) : ((hO 5 6 6 5 fr es l many oa tk brk).objs.all fun e => e.2.2.all (objFreeT [(site 40 3, 6), (site 40 4, 6), (site 40 5, 6), (site 48 6, 5), (loopSite 48, 5)])) = true := by
  rcases ho with rfl | ⟨_, _, rfl⟩ <;> kernel_rfl
theorem q0_5 (fr : Nat → Fr) (es : List (Value × Bool × List DV)) (l : List (Int × Int)) (many : Int) (oa : AV) (tk : List (Nat × Nat)) (i : Int) (h1 : decide (i < ((l.length : Nat) : Int)) = false) :
    Ev C9 noO (.code 48 false (loopOf Try.prog 48 0) { σ := fS l i 5, h := (hO 5 6 6 5 fr es l many oa tk false) }) (.code (.exit 0) { σ := slots 47 [], h := (hO 5 6 6 5 fr es l many oa tk false) }) :=
  symM_ev (n := 60) (sc := [(site 48 23, Dec.b false)]) (keep := []) (sc' := []) (by kernel_rfl) (AllP_cons h1 AllP_nil)
theorem q1_5 (fr : Nat → Fr) (es : List (Value × Bool × List DV)) (l : List (Int × Int)) (many : Int) (oa : AV) (ho : OutOK oa) (tk : List (Nat × Nat)) (i i1 : Int) (c : Int × Int) (x : X) (s : St) (h1 : decide (i < ((l.length : Nat) : Int)) = true) (h2 : 0 ≤ i ∧ (rowsP l)[i.toNat]? = some (rowC c)) (h3 : containsSpec [ordP fr 5, .agg (rowC c)] = some [pbool true]) (h4 : wr64 (i + 1) = i1)
    (h5 : Ev C9 noO (.code 48 false (loopOf Try.prog 48 0) { σ := fS l i1 5, h := (hO 5 6 6 5 fr es l many oa tk false) }) (.code x s)) : Ev C9 noO (.code 48 false (loopOf Try.prog 48 0) { σ := fS l i 5, h := (hO 5 6 6 5 fr es l many oa tk false) }) (.code x s) :=
  sym_ev 60 _ [(site 48 23, Dec.b true), (site 48 24, Dec.row (rowC c)), (site 48 28, Dec.prim [pbool true]), (site 48 46, Dec.int i1), (site 48 8002, Dec.trunc [(site 48 6, 5)] [1, 2, 3, 4, 20, 21, 22]), (site 48 8001, Dec.loop [1, 2, 3, 4, 20, 21, 22] x s)] _ [] _ (by kernel_rfl) (AllP_cons h1 (AllP_cons h2 (AllP_cons h3 (AllP_cons h4 (AllP_cons (rfl : true = true) (AllP_cons (f6_5 fr es l many ho tk false) (AllP_cons (rfl : true = true) (AllP_cons h5 AllP_nil))))))))
theorem q2_5 (fr : Nat → Fr) (es : List (Value × Bool × List DV)) (l : List (Int × Int)) (many : Int) (oa : AV) (ho : OutOK oa) (tk : List (Nat × Nat)) (i i1 : Int) (c : Int × Int) (x : X) (s : St) (h1 : decide (i < ((l.length : Nat) : Int)) = true) (h2 : 0 ≤ i ∧ (rowsP l)[i.toNat]? = some (rowC c)) (h3 : containsSpec [ordP fr 5, .agg (rowC c)] = some [pbool false])
    (hc : Ev C9 noO (.call 52 [lA l, blkF 5] (hO 5 6 6 6 (updC fr 5 c i) es l many oa tk false)) (.val (vb true) (hO 5 6 6 6 (updC fr 5 c i) es l many oa tk false))) (h4 : wr64 (i + 1) = i1)
    (h5 : Ev C9 noO (.code 48 false (loopOf Try.prog 48 0) { σ := fS l i1 5, h := (hO 5 6 6 5 fr es l many oa tk false) }) (.code x s)) : Ev C9 noO (.code 48 false (loopOf Try.prog 48 0) { σ := fS l i 5, h := (hO 5 6 6 5 fr es l many oa tk false) }) (.code x s) :=
  sym_ev 60 _ [(site 48 23, Dec.b true), (site 48 24, Dec.row (rowC c)), (site 48 28, Dec.prim [pbool false]), (site 48 32, Dec.call (vb true) (hO 5 6 6 6 (updC fr 5 c i) es l many oa tk false)), (site 48 46, Dec.int i1), (site 48 8002, Dec.trunc [(site 48 6, 5)] [1, 2, 3, 4, 20, 21, 22]), (site 48 8001, Dec.loop [1, 2, 3, 4, 20, 21, 22] x s)] _ [] _ (by kernel_rfl) (AllP_cons h1 (AllP_cons h2 (AllP_cons h3 (AllP_cons hc (AllP_cons h4 (AllP_cons (rfl : true = true) (AllP_cons (f6_5 fr es l many ho tk false) (AllP_cons (rfl : true = true) (AllP_cons h5 AllP_nil)))))))))
theorem q3_5 (fr : Nat → Fr) (es : List (Value × Bool × List DV)) (l : List (Int × Int)) (many : Int) (oa oa1 : AV) (ho1 : OutOK oa1) (tk tk1 : List (Nat × Nat)) (i i1 : Int) (c : Int × Int) (x : X) (s : St) (h1 : decide (i < ((l.length : Nat) : Int)) = true) (h2 : 0 ≤ i ∧ (rowsP l)[i.toNat]? = some (rowC c)) (h3 : containsSpec [ordP fr 5, .agg (rowC c)] = some [pbool false])
    (hc : Ev C9 noO (.call 52 [lA l, blkF 5] (hO 5 6 6 6 (updC fr 5 c i) es l many oa tk false)) (.val (vb false) (hO 5 6 6 6 (updC fr 5 c i) es l many oa tk false))) (hf : false = false ∧ fitsP ((fr 5).r).length 1 16)
    (he : Ev C9 noO (.call 48 (args48 6) (hO 6 7 6 6 (updO fr 5 c i ((fr 5).r ++ [rowC c])) es l many oa tk false)) (.val unitA (hO 6 7 6 6 (updO fr 5 c i ((fr 5).r ++ [rowC c])) es l many oa1 tk1 false))) (h4 : wr64 (i + 1) = i1)
    (h5 : Ev C9 noO (.code 48 false (loopOf Try.prog 48 0) { σ := fS l i1 5, h := (hO 5 6 6 5 fr es l many oa1 tk1 false) }) (.code x s)) : Ev C9 noO (.code 48 false (loopOf Try.prog 48 0) { σ := fS l i 5, h := (hO 5 6 6 5 fr es l many oa tk false) }) (.code x s) :=
  sym_ev 60 _ [(site 48 23, Dec.b true), (site 48 24, Dec.row (rowC c)), (site 48 28, Dec.prim [pbool false]), (site 48 32, Dec.call (vb false) (hO 5 6 6 6 (updC fr 5 c i) es l many oa tk false)), (site 48 39, Dec.app false), (site 48 8003, Dec.rng [1, 2, 3, 4, 20, 21, 22, 40] unitA (hO 6 7 6 6 (updO fr 5 c i ((fr 5).r ++ [rowC c])) es l many oa1 tk1 false)), (site 48 46, Dec.int i1), (site 48 8002, Dec.trunc [(site 40 3, 6), (site 40 4, 6), (site 40 5, 6), (site 48 6, 5), (loopSite 48, 5)] [1, 2, 3, 4, 20, 21, 22]), (site 48 8001, Dec.loop [1, 2, 3, 4, 20, 21, 22] x s)] _ [] _ (by kernel_rfl) (AllP_cons h1 (AllP_cons h2 (AllP_cons h3 (AllP_cons hc (AllP_cons hf (AllP_cons he (AllP_cons h4 (AllP_cons (rfl : true = true) (AllP_cons (f5_5 fr es l many ho1 tk1 false) (AllP_cons (rfl : true = true) (AllP_cons h5 AllP_nil)))))))))))
theorem q4_5 (fr : Nat → Fr) (es : List (Value × Bool × List DV)) (l : List (Int × Int)) (many : Int) (oa oa1 : AV) (ho1 : OutOK oa1) (tk tk1 : List (Nat × Nat)) (i i1 : Int) (c : Int × Int) (x : X) (s : St) (h1 : decide (i < ((l.length : Nat) : Int)) = true) (h2 : 0 ≤ i ∧ (rowsP l)[i.toNat]? = some (rowC c)) (h3 : containsSpec [ordP fr 5, .agg (rowC c)] = some [pbool false])
    (hc : Ev C9 noO (.call 52 [lA l, blkF 5] (hO 5 6 6 6 (updC fr 5 c i) es l many oa tk false)) (.val (vb false) (hO 5 6 6 6 (updC fr 5 c i) es l many oa tk false))) (hf : false = false ∧ fitsP ((fr 5).r).length 1 16)
    (he : Ev C9 noO (.call 48 (args48 6) (hO 6 7 6 6 (updO fr 5 c i ((fr 5).r ++ [rowC c])) es l many oa tk false)) (.val unitA (hO 6 7 6 6 (updO fr 5 c i ((fr 5).r ++ [rowC c])) es l many oa1 tk1 true))) : Ev C9 noO (.code 48 false (loopOf Try.prog 48 0) { σ := fS l i 5, h := (hO 5 6 6 5 fr es l many oa tk false) }) (.code .ret { σ := slots 47 [], h := (hO 5 6 6 5 fr es l many oa1 tk1 true) }) :=
  symT_ev (n := 60) (sc := [(site 48 23, Dec.b true), (site 48 24, Dec.row (rowC c)), (site 48 28, Dec.prim [pbool false]), (site 48 32, Dec.call (vb false) (hO 5 6 6 6 (updC fr 5 c i) es l many oa tk false)), (site 48 39, Dec.app false), (site 48 8003, Dec.rng [1, 2, 3, 4, 20, 21, 22, 40] unitA (hO 6 7 6 6 (updO fr 5 c i ((fr 5).r ++ [rowC c])) es l many oa1 tk1 true))]) (keep := []) (L := [(site 40 3, 6), (site 40 4, 6), (site 40 5, 6), (site 48 6, 5), (loopSite 48, 5)]) (sc' := []) (by kernel_rfl) (AllP_cons h1 (AllP_cons h2 (AllP_cons h3 (AllP_cons hc (AllP_cons hf (AllP_cons he (AllP_cons (rfl : true = true) (AllP_cons (f5_5 fr es l many ho1 tk1 true) (AllP_cons (rfl : true = true) AllP_nil)))))))))
theorem f1_5 (fr : Nat → Fr) (es : List (Value × Bool × List DV)) (l : List (Int × Int)) (many : Int) {oa : AV} (ho : OutOK oa) (tk : List (Nat × Nat)) : ((hO 5 6 6 6 fr es l many oa tk false).objs.all fun e => e.2.2.all (objFreeT [(site 51 4, 0)])) = true := by
  rcases ho with rfl | ⟨_, _, rfl⟩ <;> kernel_rfl
theorem r0_5 (fr : Nat → Fr) (es : List (Value × Bool × List DV)) (l : List (Int × Int)) (many : Int) (oa : AV) (tk : List (Nat × Nat)) (i : Int) (h1 : decide (i < ((l.length : Nat) : Int)) = false) :
    Ev C9 noO (.code 66 false (loopOf Try.prog 66 0) { σ := slots 19 [(0, lA l), (1, blkF 5), (7, vi ((l.length : Nat) : Int)), (8, vi i)], h := (hO 5 6 6 6 fr es l many oa tk false) }) (.code (.exit 0) { σ := slots 19 [], h := (hO 5 6 6 6 fr es l many oa tk false) }) :=
  symM_ev (n := 60) (sc := [(site 66 9, Dec.b false)]) (keep := []) (sc' := []) (by kernel_rfl) (AllP_cons h1 AllP_nil)
theorem r1_5 (fr : Nat → Fr) (es : List (Value × Bool × List DV)) (l : List (Int × Int)) (many : Int) (oa : AV) (tk : List (Nat × Nat)) (i i1 : Int) (y : Int × Int) (ho : OutOK oa) (x : X) (s : St) (h1 : decide (i < ((l.length : Nat) : Int)) = true) (h2 : 0 ≤ i ∧ (rowsP l)[i.toNat]? = some (rowC y)) (h3 : containsSpec [ordP fr 5, .agg (rowC y)] = some [pbool true]) (h4 : wr64 (i + 1) = i1)
    (h5 : Ev C9 noO (.code 66 false (loopOf Try.prog 66 0) { σ := slots 19 [(0, lA l), (1, blkF 5), (7, vi ((l.length : Nat) : Int)), (8, vi i1)], h := (hO 5 6 6 6 fr es l many oa tk false) }) (.code x s)) : Ev C9 noO (.code 66 false (loopOf Try.prog 66 0) { σ := slots 19 [(0, lA l), (1, blkF 5), (7, vi ((l.length : Nat) : Int)), (8, vi i)], h := (hO 5 6 6 6 fr es l many oa tk false) }) (.code x s) :=
  sym_ev 60 _ [(site 66 9, Dec.b true), (site 66 14, Dec.row (rowC y)), (site 51 8, Dec.prim [pbool true]), (site 66 18, Dec.int i1), (site 66 8002, Dec.trunc [(site 51 4, 0)] [0, 1, 7, 8]), (site 66 8001, Dec.loop [0, 1, 7, 8] x s)] _ [] _ (by kernel_rfl) (AllP_cons h1 (AllP_cons h2 (AllP_cons h3 (AllP_cons h4 (AllP_cons (rfl : true = true) (AllP_cons (f1_5 fr es l many ho tk) (AllP_cons (rfl : true = true) (AllP_cons h5 AllP_nil))))))))
theorem r2_5 (fr : Nat → Fr) (es : List (Value × Bool × List DV)) (l : List (Int × Int)) (many : Int) (oa : AV) (tk : List (Nat × Nat)) (i i1 : Int) (y : Int × Int) (ho : OutOK oa) (x : X) (s : St) (h1 : decide (i < ((l.length : Nat) : Int)) = true) (h2 : 0 ≤ i ∧ (rowsP l)[i.toNat]? = some (rowC y)) (h3 : containsSpec [ordP fr 5, .agg (rowC y)] = some [pbool false]) (u v : Int × Int) (h4 : lookupIn C9 59 es (.agg [vi y.1, vi y.2]) false = some (.agg [vi u.1, vi u.2])) (h5 : lookupIn C9 59 es (.agg [vi (fr 5).c.1, vi (fr 5).c.2]) false = some (.agg [vi v.1, vi v.2])) (h6 : aheadSpec [.agg (rowC u), .agg (rowC v)] = some [pbool false]) (h7 : wr64 (i + 1) = i1)
    (h8 : Ev C9 noO (.code 66 false (loopOf Try.prog 66 0) { σ := slots 19 [(0, lA l), (1, blkF 5), (7, vi ((l.length : Nat) : Int)), (8, vi i1)], h := (hO 5 6 6 6 fr es l many oa tk false) }) (.code x s)) : Ev C9 noO (.code 66 false (loopOf Try.prog 66 0) { σ := slots 19 [(0, lA l), (1, blkF 5), (7, vi ((l.length : Nat) : Int)), (8, vi i)], h := (hO 5 6 6 6 fr es l many oa tk false) }) (.code x s) :=
  sym_ev 60 _ [(site 66 9, Dec.b true), (site 66 14, Dec.row (rowC y)), (site 51 8, Dec.prim [pbool false]), (site 51 13, Dec.look (.agg [vi u.1, vi u.2])), (site 51 16, Dec.look (.agg [vi v.1, vi v.2])), (site 51 17, Dec.prim [pbool false]), (site 66 18, Dec.int i1), (site 66 8002, Dec.trunc [(site 51 4, 0)] [0, 1, 7, 8]), (site 66 8001, Dec.loop [0, 1, 7, 8] x s)] _ [] _ (by kernel_rfl) (AllP_cons h1 (AllP_cons h2 (AllP_cons h3 (AllP_cons h4 (AllP_cons h5 (AllP_cons h6 (AllP_cons h7 (AllP_cons (rfl : true = true) (AllP_cons (f1_5 fr es l many ho tk) (AllP_cons (rfl : true = true) (AllP_cons h8 AllP_nil)))))))))))
theorem r3_5 (fr : Nat → Fr) (es : List (Value × Bool × List DV)) (l : List (Int × Int)) (many : Int) (oa : AV) (tk : List (Nat × Nat)) (i i1 : Int) (y : Int × Int) (ho : OutOK oa) (h1 : decide (i < ((l.length : Nat) : Int)) = true) (h2 : 0 ≤ i ∧ (rowsP l)[i.toNat]? = some (rowC y)) (h3 : containsSpec [ordP fr 5, .agg (rowC y)] = some [pbool false]) (u v : Int × Int) (h4 : lookupIn C9 59 es (.agg [vi y.1, vi y.2]) false = some (.agg [vi u.1, vi u.2])) (h5 : lookupIn C9 59 es (.agg [vi (fr 5).c.1, vi (fr 5).c.2]) false = some (.agg [vi v.1, vi v.2])) (h6 : aheadSpec [.agg (rowC u), .agg (rowC v)] = some [pbool true]) :
    Ev C9 noO (.code 66 false (loopOf Try.prog 66 0) { σ := slots 19 [(0, lA l), (1, blkF 5), (7, vi ((l.length : Nat) : Int)), (8, vi i)], h := (hO 5 6 6 6 fr es l many oa tk false) }) (.code .ret { σ := slots 19 [(4, vi i)], h := (hO 5 6 6 6 fr es l many oa tk false) }) :=
  symT_ev (n := 60) (sc := [(site 66 9, Dec.b true), (site 66 14, Dec.row (rowC y)), (site 51 8, Dec.prim [pbool false]), (site 51 13, Dec.look (.agg [vi u.1, vi u.2])), (site 51 16, Dec.look (.agg [vi v.1, vi v.2])), (site 51 17, Dec.prim [pbool true])]) (keep := [4]) (L := [(site 51 4, 0)]) (sc' := []) (by kernel_rfl) (AllP_cons h1 (AllP_cons h2 (AllP_cons h3 (AllP_cons h4 (AllP_cons h5 (AllP_cons h6 (AllP_cons (rfl : true = true) (AllP_cons (f1_5 fr es l many ho tk) (AllP_cons (rfl : true = true) AllP_nil)))))))))
theorem cf_n_5 (fr : Nat → Fr) (es : List (Value × Bool × List DV)) (l : List (Int × Int)) (many : Int) (oa : AV) (tk : List (Nat × Nat)) (h1 : ((rowsP l).length : Int) = ((l.length : Nat) : Int)) (h : Ev C9 noO (.code 66 false (loopOf Try.prog 66 0) { σ := slots 19 [(0, lA l), (1, blkF 5), (7, vi ((l.length : Nat) : Int)), (8, vi 0)], h := (hO 5 6 6 6 fr es l many oa tk false) }) (.code (.exit 0) { σ := slots 19 [], h := (hO 5 6 6 6 fr es l many oa tk false) })) :
    Ev C9 noO (.call 52 [lA l, blkF 5] (hO 5 6 6 6 fr es l many oa tk false)) (.val (vb false) (hO 5 6 6 6 fr es l many oa tk false)) :=
  sym_ev 60 _ [(site 66 7, Dec.int ((l.length : Nat) : Int)), (site 66 8001, Dec.loop [0, 1, 7, 8] (.exit 0) { σ := slots 19 [], h := (hO 5 6 6 6 fr es l many oa tk false) })] _ [] _ (by kernel_rfl) (AllP_cons h1 (AllP_cons h AllP_nil))
theorem cf_y_5 (fr : Nat → Fr) (es : List (Value × Bool × List DV)) (l : List (Int × Int)) (many : Int) (oa : AV) (tk : List (Nat × Nat)) (i : Int) (h1 : ((rowsP l).length : Int) = ((l.length : Nat) : Int)) (h : Ev C9 noO (.code 66 false (loopOf Try.prog 66 0) { σ := slots 19 [(0, lA l), (1, blkF 5), (7, vi ((l.length : Nat) : Int)), (8, vi 0)], h := (hO 5 6 6 6 fr es l many oa tk false) }) (.code .ret { σ := slots 19 [(4, vi i)], h := (hO 5 6 6 6 fr es l many oa tk false) })) (h0 : decide (i ≥ 0) = true) :
    Ev C9 noO (.call 52 [lA l, blkF 5] (hO 5 6 6 6 fr es l many oa tk false)) (.val (vb true) (hO 5 6 6 6 fr es l many oa tk false)) :=
  sym_ev 60 _ [(site 66 7, Dec.int ((l.length : Nat) : Int)), (site 66 8001, Dec.loop [0, 1, 7, 8] .ret { σ := slots 19 [(4, vi i)], h := (hO 5 6 6 6 fr es l many oa tk false) }), (site 52 8, Dec.b true)] _ [] _ (by kernel_rfl) (AllP_cons h1 (AllP_cons h (AllP_cons h0 AllP_nil)))
theorem f4_5 (fr : Nat → Fr) (es : List (Value × Bool × List DV)) (l : List (Int × Int)) (many : Int) {oa : AV} (ho : OutOK oa) (tk : List (Nat × Nat)) (brk : Bool) : ((hO 5 6 5 5 fr es l many oa tk brk).objs.all fun e => e.2.2.all (objFreeT [(site 48 4, 5)])) = true := by
  rcases ho with rfl | ⟨_, _, rfl⟩ <;> kernel_rfl
theorem pne_5 (fr : Nat → Fr) (es : List (Value × Bool × List DV)) (l : List (Int × Int)) (many : Int) (oa : AV) (tk : List (Nat × Nat)) (k : Int) (hf : fitsSpec [.one (.mp es), ordP fr 5] = some [pint k]) (h0 : (k == 0) = false) (oa1 : AV) (ho1 : OutOK oa1) (tk1 : List (Nat × Nat)) (h21 : ((rowsP l).length : Int) = ((l.length : Nat) : Int))
    (hl : Ev C9 noO (.code 48 false (loopOf Try.prog 48 0) { σ := fS l 0 5, h := (hO 5 6 6 5 fr es l many oa tk false) }) (.code (.exit 0) { σ := slots 47 [], h := (hO 5 6 6 5 fr es l many oa1 tk1 false) })) : Ev C9 noO (.call 48 (args48 5) (hO 5 6 5 5 fr es l many oa tk false)) (.val unitA (hO 5 6 5 5 fr es l many oa1 tk1 false)) :=
  symCT_ev (n := 200) (sc := [(site 48 11, Dec.prim [pint k]), (site 48 12, Dec.b false), (site 48 21, Dec.int ((l.length : Nat) : Int)), (site 48 8001, Dec.loop [1, 2, 3, 4, 20, 21, 22] (.exit 0) { σ := slots 47 [], h := (hO 5 6 6 5 fr es l many oa1 tk1 false) })]) (keep := []) (L := [(site 48 4, 5)]) (sc' := []) (by kernel_rfl) (AllP_cons hf (AllP_cons h0 (AllP_cons h21 (AllP_cons hl (AllP_cons (rfl : true = true) (AllP_cons (f4_5 fr es l many ho1 tk1 false) (AllP_cons (rfl : true = true) AllP_nil)))))))
theorem pnr_5 (fr : Nat → Fr) (es : List (Value × Bool × List DV)) (l : List (Int × Int)) (many : Int) (oa : AV) (tk : List (Nat × Nat)) (k : Int) (hf : fitsSpec [.one (.mp es), ordP fr 5] = some [pint k]) (h0 : (k == 0) = false) (oa1 : AV) (ho1 : OutOK oa1) (tk1 : List (Nat × Nat)) (h21 : ((rowsP l).length : Int) = ((l.length : Nat) : Int))
    (hl : Ev C9 noO (.code 48 false (loopOf Try.prog 48 0) { σ := fS l 0 5, h := (hO 5 6 6 5 fr es l many oa tk false) }) (.code .ret { σ := slots 47 [], h := (hO 5 6 6 5 fr es l many oa1 tk1 true) })) : Ev C9 noO (.call 48 (args48 5) (hO 5 6 5 5 fr es l many oa tk false)) (.val unitA (hO 5 6 5 5 fr es l many oa1 tk1 true)) :=
  symCT_ev (n := 200) (sc := [(site 48 11, Dec.prim [pint k]), (site 48 12, Dec.b false), (site 48 21, Dec.int ((l.length : Nat) : Int)), (site 48 8001, Dec.loop [1, 2, 3, 4, 20, 21, 22] .ret { σ := slots 47 [], h := (hO 5 6 6 5 fr es l many oa1 tk1 true) })]) (keep := []) (L := [(site 48 4, 5)]) (sc' := []) (by kernel_rfl) (AllP_cons hf (AllP_cons h0 (AllP_cons h21 (AllP_cons hl (AllP_cons (rfl : true = true) (AllP_cons (f4_5 fr es l many ho1 tk1 true) (AllP_cons (rfl : true = true) AllP_nil)))))))
theorem py0e_5 (fr : Nat → Fr) (es : List (Value × Bool × List DV)) (l : List (Int × Int)) (many : Int) (hf : fitsSpec [.one (.mp es), ordP fr 5] = some [pint 0]) (hcl : cloneSpec [ordP fr 5] = some [ordP fr 5]) (h52 : ((0 : Int) == many) = false) (oa1 : AV) (ho1 : OutOK oa1) (tk1 : List (Nat × Nat)) (h21 : ((rowsP l).length : Int) = ((l.length : Nat) : Int))
    (hl : Ev C9 noO (.code 48 false (loopOf Try.prog 48 0) { σ := fS l 0 5, h := (hO 5 6 6 5 fr es l many (.st 1 [[(.sl 2 false (fr 5).r)]] (site 24 56) 1) [(site 24 56, 1)] false) }) (.code (.exit 0) { σ := slots 47 [], h := (hO 5 6 6 5 fr es l many oa1 tk1 false) })) : Ev C9 noO (.call 48 (args48 5) (hO 5 6 5 5 fr es l many (.d (.v (.slice none 0 0))) [] false)) (.val unitA (hO 5 6 5 5 fr es l many oa1 tk1 false)) :=
  symCT_ev (n := 200) (sc := [(site 48 11, Dec.prim [pint 0]), (site 48 16, Dec.prim [ordP fr 5]), (site 24 52, Dec.b false), (site 48 21, Dec.int ((l.length : Nat) : Int)), (site 48 8001, Dec.loop [1, 2, 3, 4, 20, 21, 22] (.exit 0) { σ := slots 47 [], h := (hO 5 6 6 5 fr es l many oa1 tk1 false) })]) (keep := []) (L := [(site 48 4, 5)]) (sc' := []) (by kernel_rfl) (AllP_cons hf (AllP_cons hcl (AllP_cons h52 (AllP_cons h21 (AllP_cons hl (AllP_cons (rfl : true = true) (AllP_cons (f4_5 fr es l many ho1 tk1 false) (AllP_cons (rfl : true = true) AllP_nil))))))))
theorem py0r_5 (fr : Nat → Fr) (es : List (Value × Bool × List DV)) (l : List (Int × Int)) (many : Int) (hf : fitsSpec [.one (.mp es), ordP fr 5] = some [pint 0]) (hcl : cloneSpec [ordP fr 5] = some [ordP fr 5]) (h52 : ((0 : Int) == many) = false) (oa1 : AV) (ho1 : OutOK oa1) (tk1 : List (Nat × Nat)) (h21 : ((rowsP l).length : Int) = ((l.length : Nat) : Int))
    (hl : Ev C9 noO (.code 48 false (loopOf Try.prog 48 0) { σ := fS l 0 5, h := (hO 5 6 6 5 fr es l many (.st 1 [[(.sl 2 false (fr 5).r)]] (site 24 56) 1) [(site 24 56, 1)] false) }) (.code .ret { σ := slots 47 [], h := (hO 5 6 6 5 fr es l many oa1 tk1 true) })) : Ev C9 noO (.call 48 (args48 5) (hO 5 6 5 5 fr es l many (.d (.v (.slice none 0 0))) [] false)) (.val unitA (hO 5 6 5 5 fr es l many oa1 tk1 true)) :=
  symCT_ev (n := 200) (sc := [(site 48 11, Dec.prim [pint 0]), (site 48 16, Dec.prim [ordP fr 5]), (site 24 52, Dec.b false), (site 48 21, Dec.int ((l.length : Nat) : Int)), (site 48 8001, Dec.loop [1, 2, 3, 4, 20, 21, 22] .ret { σ := slots 47 [], h := (hO 5 6 6 5 fr es l many oa1 tk1 true) })]) (keep := []) (L := [(site 48 4, 5)]) (sc' := []) (by kernel_rfl) (AllP_cons hf (AllP_cons hcl (AllP_cons h52 (AllP_cons h21 (AllP_cons hl (AllP_cons (rfl : true = true) (AllP_cons (f4_5 fr es l many ho1 tk1 true) (AllP_cons (rfl : true = true) AllP_nil))))))))
theorem py1e_5 (fr : Nat → Fr) (es : List (Value × Bool × List DV)) (l : List (Int × Int)) (many : Int) (rows : List (List DV)) (g : Nat) (n : Int) (hf : fitsSpec [.one (.mp es), ordP fr 5] = some [pint 0]) (hcl : cloneSpec [ordP fr 5] = some [ordP fr 5]) (hn : (rows.length : Int) = n) (h52 : (n == many) = false) (hfp : false = false ∧ g = g ∧ fitsP rows.length 1 24) (oa1 : AV) (ho1 : OutOK oa1) (tk1 : List (Nat × Nat)) (h21 : ((rowsP l).length : Int) = ((l.length : Nat) : Int))
    (hl : Ev C9 noO (.code 48 false (loopOf Try.prog 48 0) { σ := fS l 0 5, h := (hO 5 6 6 5 fr es l many (.st 1 (rows ++ [[(.sl 2 false (fr 5).r)]]) (site 24 56) (g + 1 + 1)) [(site 24 56, g + 1 + 1)] false) }) (.code (.exit 0) { σ := slots 47 [], h := (hO 5 6 6 5 fr es l many oa1 tk1 false) })) : Ev C9 noO (.call 48 (args48 5) (hO 5 6 5 5 fr es l many (.st 1 rows (site 24 56) g) [(site 24 56, g)] false)) (.val unitA (hO 5 6 5 5 fr es l many oa1 tk1 false)) :=
  symCT_ev (n := 200) (sc := [(site 48 11, Dec.prim [pint 0]), (site 48 16, Dec.prim [ordP fr 5]), (site 24 50, Dec.int n), (site 24 52, Dec.b false), (site 24 56, Dec.app false), (site 48 21, Dec.int ((l.length : Nat) : Int)), (site 48 8001, Dec.loop [1, 2, 3, 4, 20, 21, 22] (.exit 0) { σ := slots 47 [], h := (hO 5 6 6 5 fr es l many oa1 tk1 false) })]) (keep := []) (L := [(site 48 4, 5)]) (sc' := []) (by kernel_rfl) (AllP_cons hf (AllP_cons hcl (AllP_cons hn (AllP_cons h52 (AllP_cons hfp (AllP_cons h21 (AllP_cons hl (AllP_cons (rfl : true = true) (AllP_cons (f4_5 fr es l many ho1 tk1 false) (AllP_cons (rfl : true = true) AllP_nil))))))))))
theorem py1r_5 (fr : Nat → Fr) (es : List (Value × Bool × List DV)) (l : List (Int × Int)) (many : Int) (rows : List (List DV)) (g : Nat) (n : Int) (hf : fitsSpec [.one (.mp es), ordP fr 5] = some [pint 0]) (hcl : cloneSpec [ordP fr 5] = some [ordP fr 5]) (hn : (rows.length : Int) = n) (h52 : (n == many) = false) (hfp : false = false ∧ g = g ∧ fitsP rows.length 1 24) (oa1 : AV) (ho1 : OutOK oa1) (tk1 : List (Nat × Nat)) (h21 : ((rowsP l).length : Int) = ((l.length : Nat) : Int))
    (hl : Ev C9 noO (.code 48 false (loopOf Try.prog 48 0) { σ := fS l 0 5, h := (hO 5 6 6 5 fr es l many (.st 1 (rows ++ [[(.sl 2 false (fr 5).r)]]) (site 24 56) (g + 1 + 1)) [(site 24 56, g + 1 + 1)] false) }) (.code .ret { σ := slots 47 [], h := (hO 5 6 6 5 fr es l many oa1 tk1 true) })) : Ev C9 noO (.call 48 (args48 5) (hO 5 6 5 5 fr es l many (.st 1 rows (site 24 56) g) [(site 24 56, g)] false)) (.val unitA (hO 5 6 5 5 fr es l many oa1 tk1 true)) :=
  symCT_ev (n := 200) (sc := [(site 48 11, Dec.prim [pint 0]), (site 48 16, Dec.prim [ordP fr 5]), (site 24 50, Dec.int n), (site 24 52, Dec.b false), (site 24 56, Dec.app false), (site 48 21, Dec.int ((l.length : Nat) : Int)), (site 48 8001, Dec.loop [1, 2, 3, 4, 20, 21, 22] .ret { σ := slots 47 [], h := (hO 5 6 6 5 fr es l many oa1 tk1 true) })]) (keep := []) (L := [(site 48 4, 5)]) (sc' := []) (by kernel_rfl) (AllP_cons hf (AllP_cons hcl (AllP_cons hn (AllP_cons h52 (AllP_cons hfp (AllP_cons h21 (AllP_cons hl (AllP_cons (rfl : true = true) (AllP_cons (f4_5 fr es l many ho1 tk1 true) (AllP_cons (rfl : true = true) AllP_nil))))))))))
theorem pb0_5 (fr : Nat → Fr) (es : List (Value × Bool × List DV)) (l : List (Int × Int)) (many : Int) (hf : fitsSpec [.one (.mp es), ordP fr 5] = some [pint 0]) (hcl : cloneSpec [ordP fr 5] = some [ordP fr 5]) (h52 : ((0 : Int) == many) = true) : Ev C9 noO (.call 48 (args48 5) (hO 5 6 5 5 fr es l many (.d (.v (.slice none 0 0))) [] false)) (.val unitA (hO 5 6 5 5 fr es l many (.d (.v (.slice none 0 0))) [] true)) :=
  symCT_ev (n := 200) (sc := [(site 48 11, Dec.prim [pint 0]), (site 48 16, Dec.prim [ordP fr 5]), (site 24 52, Dec.b true)]) (keep := []) (L := [(site 48 4, 5)]) (sc' := []) (by kernel_rfl) (AllP_cons hf (AllP_cons hcl (AllP_cons h52 (AllP_cons (rfl : true = true) (AllP_cons (rfl : true = true) (AllP_cons (rfl : true = true) AllP_nil))))))
theorem pb1_5 (fr : Nat → Fr) (es : List (Value × Bool × List DV)) (l : List (Int × Int)) (many : Int) (rows : List (List DV)) (g : Nat) (n : Int) (hf : fitsSpec [.one (.mp es), ordP fr 5] = some [pint 0]) (hcl : cloneSpec [ordP fr 5] = some [ordP fr 5]) (hn : (rows.length : Int) = n) (h52 : (n == many) = true) : Ev C9 noO (.call 48 (args48 5) (hO 5 6 5 5 fr es l many (.st 1 rows (site 24 56) g) [(site 24 56, g)] false)) (.val unitA (hO 5 6 5 5 fr es l many (.st 1 rows (site 24 56) g) [(site 24 56, g)] true)) :=
  symCT_ev (n := 200) (sc := [(site 48 11, Dec.prim [pint 0]), (site 48 16, Dec.prim [ordP fr 5]), (site 24 50, Dec.int n), (site 24 52, Dec.b true)]) (keep := []) (L := [(site 48 4, 5)]) (sc' := []) (by kernel_rfl) (AllP_cons hf (AllP_cons hcl (AllP_cons hn (AllP_cons h52 (AllP_cons (rfl : true = true) (AllP_cons (rfl : true = true) (AllP_cons (rfl : true = true) AllP_nil)))))))

end Go.Ev

namespace Go.Ev
open Go Go.RowKit Go.Proofs

theorem f6_6 (fr : Nat → Fr) (es : List (Value × Bool × List DV)) (l : List (Int × Int)) (many : Int) {oa : AV} (ho : OutOK oa) (tk : List (Nat × Nat)) (brk : Bool) : ((hO 6 7 7 6 fr es l many oa tk brk).objs.all fun e => e.2.2.all (objFreeT [(site 48 6, 6)])) = true := by
  rcases ho with rfl | ⟨_, _, rfl⟩ <;> kernel_rfl
theorem f5_6 (fr : Nat → Fr) (es : List (Value × Bool × List DV)) (l : List (Int × Int)) (many : Int) {oa : AV} (ho : OutOK oa) (tk : List (Nat × Nat)) (brk : Bool) : ((hO 6 7 7 6 fr es l many oa tk brk).objs.all fun e => e.2.2.all (objFreeT [(site 40 3, 7), (site 40 4, 7), (site 40 5, 7), (site 48 6, 6), (loopSite 48, 6)])) = true := by
  rcases ho with rfl | ⟨_, _, rfl⟩ <;> kernel_rfl
theorem q0_6 (fr : Nat → Fr) (es : List (Value × Bool × List DV)) (l : List (Int × Int)) (many : Int) (oa : AV) (tk : List (Nat × Nat)) (i : Int) (h1 : decide (i < ((l.length : Nat) : Int)) = false) :
    Ev C9 noO (.code 48 false (loopOf Try.prog 48 0) { σ := fS l i 6, h := (hO 6 7 7 6 fr es l many oa tk false) }) (.code (.exit 0) { σ := slots 47 [], h := (hO 6 7 7 6 fr es l many oa tk false) }) :=
  symM_ev (n := 60) (sc := [(site 48 23, Dec.b false)]) (keep := []) (sc' := []) (by kernel_rfl) (AllP_cons h1 AllP_nil)
theorem q1_6 (fr : Nat → Fr) (es : List (Value × Bool × List DV)) (l : List (Int × Int)) (many : Int) (oa : AV) (ho : OutOK oa) (tk : List (Nat × Nat)) (i i1 : Int) (c : Int × Int) (x : X) (s : St) (h1 : decide (i < ((l.length : Nat) : Int)) = true) (h2 : 0 ≤ i ∧ (rowsP l)[i.toNat]? = some (rowC c)) (h3 : containsSpec [ordP fr 6, .agg (rowC c)] = some [pbool true]) (h4 : wr64 (i + 1) = i1)
    (h5 : Ev C9 noO (.code 48 false (loopOf Try.prog 48 0) { σ := fS l i1 6, h := (hO 6 7 7 6 fr es l many oa tk false) }) (.code x s)) : Ev C9 noO (.code 48 false (loopOf Try.prog 48 0) { σ := fS l i 6, h := (hO 6 7 7 6 fr es l many oa tk false) }) (.code x s) :=
  sym_ev 60 _ [(site 48 23, Dec.b true), (site 48 24, Dec.row (rowC c)), (site 48 28, Dec.prim [pbool true]), (site 48 46, Dec.int i1), (site 48 8002, Dec.trunc [(site 48 6, 6)] [1, 2, 3, 4, 20, 21, 22]), (site 48 8001, Dec.loop [1, 2, 3, 4, 20, 21, 22] x s)] _ [] _ (by kernel_rfl) (AllP_cons h1 (AllP_cons h2 (AllP_cons h3 (AllP_cons h4 (AllP_cons (rfl : true = true) (AllP_cons (f6_6 fr es l many ho tk false) (AllP_cons (rfl : true = true) (AllP_cons h5 AllP_nil))))))))
theorem q2_6 (fr : Nat → Fr) (es : List (Value × Bool × List DV)) (l : List (Int × Int)) (many : Int) (oa : AV) (ho : OutOK oa) (tk : List (Nat × Nat)) (i i1 : Int) (c : Int × Int) (x : X) (s : St) (h1 : decide (i < ((l.length : Nat) : Int)) = true) (h2 : 0 ≤ i ∧ (rowsP l)[i.toNat]? = some (rowC c)) (h3 : containsSpec [ordP fr 6, .agg (rowC c)] = some [pbool false])
    (hc : Ev C9 noO (.call 52 [lA l, blkF 6] (hO 6 7 7 7 (updC fr 6 c i) es l many oa tk false)) (.val (vb true) (hO 6 7 7 7 (updC fr 6 c i) es l many oa tk false))) (h4 : wr64 (i + 1) = i1)
    (h5 : Ev C9 noO (.code 48 false (loopOf Try.prog 48 0) { σ := fS l i1 6, h := (hO 6 7 7 6 fr es l many oa tk false) }) (.code x s)) : Ev C9 noO (.code 48 false (loopOf Try.prog 48 0) { σ := fS l i 6, h := (hO 6 7 7 6 fr es l many oa tk false) }) (.code x s) :=
  sym_ev 60 _ [(site 48 23, Dec.b true), (site 48 24, Dec.row (rowC c)), (site 48 28, Dec.prim [pbool false]), (site 48 32, Dec.call (vb true) (hO 6 7 7 7 (updC fr 6 c i) es l many oa tk false)), (site 48 46, Dec.int i1), (site 48 8002, Dec.trunc [(site 48 6, 6)] [1, 2, 3, 4, 20, 21, 22]), (site 48 8001, Dec.loop [1, 2, 3, 4, 20, 21, 22] x s)] _ [] _ (by kernel_rfl) (AllP_cons h1 (AllP_cons h2 (AllP_cons h3 (AllP_cons hc (AllP_cons h4 (AllP_cons (rfl : true = true) (AllP_cons (f6_6 fr es l many ho tk false) (AllP_cons (rfl : true = true) (AllP_cons h5 AllP_nil)))))))))
theorem q3_6 (fr : Nat → Fr) (es : List (Value × Bool × List DV)) (l : List (Int × Int)) (many : Int) (oa oa1 : AV) (ho1 : OutOK oa1) (tk tk1 : List (Nat × Nat)) (i i1 : Int) (c : Int × Int) (x : X) (s : St) (h1 : decide (i < ((l.length : Nat) : Int)) = true) (h2 : 0 ≤ i ∧ (rowsP l)[i.toNat]? = some (rowC c)) (h3 : containsSpec [ordP fr 6, .agg (rowC c)] = some [pbool false])
    (hc : Ev C9 noO (.call 52 [lA l, blkF 6] (hO 6 7 7 7 (updC fr 6 c i) es l many oa tk false)) (.val (vb false) (hO 6 7 7 7 (updC fr 6 c i) es l many oa tk false))) (hf : false = false ∧ fitsP ((fr 6).r).length 1 16)
    (he : Ev C9 noO (.call 48 (args48 7) (hO 7 8 7 7 (updO fr 6 c i ((fr 6).r ++ [rowC c])) es l many oa tk false)) (.val unitA (hO 7 8 7 7 (updO fr 6 c i ((fr 6).r ++ [rowC c])) es l many oa1 tk1 false))) (h4 : wr64 (i + 1) = i1)
    (h5 : Ev C9 noO (.code 48 false (loopOf Try.prog 48 0) { σ := fS l i1 6, h := (hO 6 7 7 6 fr es l many oa1 tk1 false) }) (.code x s)) : Ev C9 noO (.code 48 false (loopOf Try.prog 48 0) { σ := fS l i 6, h := (hO 6 7 7 6 fr es l many oa tk false) }) (.code x s) :=
  sym_ev 60 _ [(site 48 23, Dec.b true), (site 48 24, Dec.row (rowC c)), (site 48 28, Dec.prim [pbool false]), (site 48 32, Dec.call (vb false) (hO 6 7 7 7 (updC fr 6 c i) es l many oa tk false)), (site 48 39, Dec.app false), (site 48 8003, Dec.rng [1, 2, 3, 4, 20, 21, 22, 40] unitA (hO 7 8 7 7 (updO fr 6 c i ((fr 6).r ++ [rowC c])) es l many oa1 tk1 false)), (site 48 46, Dec.int i1), (site 48 8002, Dec.trunc [(site 40 3, 7), (site 40 4, 7), (site 40 5, 7), (site 48 6, 6), (loopSite 48, 6)] [1, 2, 3, 4, 20, 21, 22]), (site 48 8001, Dec.loop [1, 2, 3, 4, 20, 21, 22] x s)] _ [] _ (by kernel_rfl) (AllP_cons h1 (AllP_cons h2 (AllP_cons h3 (AllP_cons hc (AllP_cons hf (AllP_cons he (AllP_cons h4 (AllP_cons (rfl : true = true) (AllP_cons (f5_6 fr es l many ho1 tk1 false) (AllP_cons (rfl : true = true) (AllP_cons h5 AllP_nil)))))))))))
theorem q4_6 (fr : Nat → Fr) (es : List (Value × Bool × List DV)) (l : List (Int × Int)) (many : Int) (oa oa1 : AV) (ho1 : OutOK oa1) (tk tk1 : List (Nat × Nat)) (i i1 : Int) (c : Int × Int) (x : X) (s : St) (h1 : decide (i < ((l.length : Nat) : Int)) = true) (h2 : 0 ≤ i ∧ (rowsP l)[i.toNat]? = some (rowC c)) (h3 : containsSpec [ordP fr 6, .agg (rowC c)] = some [pbool false])
    (hc : Ev C9 noO (.call 52 [lA l, blkF 6] (hO 6 7 7 7 (updC fr 6 c i) es l many oa tk false)) (.val (vb false) (hO 6 7 7 7 (updC fr 6 c i) es l many oa tk false))) (hf : false = false ∧ fitsP ((fr 6).r).length 1 16)
    (he : Ev C9 noO (.call 48 (args48 7) (hO 7 8 7 7 (updO fr 6 c i ((fr 6).r ++ [rowC c])) es l many oa tk false)) (.val unitA (hO 7 8 7 7 (updO fr 6 c i ((fr 6).r ++ [rowC c])) es l many oa1 tk1 true))) : Ev C9 noO (.code 48 false (loopOf Try.prog 48 0) { σ := fS l i 6, h := (hO 6 7 7 6 fr es l many oa tk false) }) (.code .ret { σ := slots 47 [], h := (hO 6 7 7 6 fr es l many oa1 tk1 true) }) :=
  symT_ev (n := 60) (sc := [(site 48 23, Dec.b true), (site 48 24, Dec.row (rowC c)), (site 48 28, Dec.prim [pbool false]), (site 48 32, Dec.call (vb false) (hO 6 7 7 7 (updC fr 6 c i) es l many oa tk false)), (site 48 39, Dec.app false), (site 48 8003, Dec.rng [1, 2, 3, 4, 20, 21, 22, 40] unitA (hO 7 8 7 7 (updO fr 6 c i ((fr 6).r ++ [rowC c])) es l many oa1 tk1 true))]) (keep := []) (L := [(site 40 3, 7), (site 40 4, 7), (site 40 5, 7), (site 48 6, 6), (loopSite 48, 6)]) (sc' := []) (by kernel_rfl) (AllP_cons h1 (AllP_cons h2 (AllP_cons h3 (AllP_cons hc (AllP_cons hf (AllP_cons he (AllP_cons (rfl : true = true) (AllP_cons (f5_6 fr es l many ho1 tk1 true) (AllP_cons (rfl : true = true) AllP_nil)))))))))
theorem f1_6 (fr : Nat → Fr) (es : List (Value × Bool × List DV)) (l : List (Int × Int)) (many : Int) {oa : AV} (ho : OutOK oa) (tk : List (Nat × Nat)) : ((hO 6 7 7 7 fr es l many oa tk false).objs.all fun e => e.2.2.all (objFreeT [(site 51 4, 0)])) = true := by
  rcases ho with rfl | ⟨_, _, rfl⟩ <;> kernel_rfl
theorem r0_6 (fr : Nat → Fr) (es : List (Value × Bool × List DV)) (l : List (Int × Int)) (many : Int) (oa : AV) (tk : List (Nat × Nat)) (i : Int) (h1 : decide (i < ((l.length : Nat) : Int)) = false) :
    Ev C9 noO (.code 66 false (loopOf Try.prog 66 0) { σ := slots 19 [(0, lA l), (1, blkF 6), (7, vi ((l.length : Nat) : Int)), (8, vi i)], h := (hO 6 7 7 7 fr es l many oa tk false) }) (.code (.exit 0) { σ := slots 19 [], h := (hO 6 7 7 7 fr es l many oa tk false) }) :=
  symM_ev (n := 60) (sc := [(site 66 9, Dec.b false)]) (keep := []) (sc' := []) (by kernel_rfl) (AllP_cons h1 AllP_nil)
theorem r1_6 (fr : Nat → Fr) (es : List (Value × Bool × List DV)) (l : List (Int × Int)) (many : Int) (oa : AV) (tk : List (Nat × Nat)) (i i1 : Int) (y : Int × Int) (ho : OutOK oa) (x : X) (s : St) (h1 : decide (i < ((l.length : Nat) : Int)) = true) (h2 : 0 ≤ i ∧ (rowsP l)[i.toNat]? = some (rowC y)) (h3 : containsSpec [ordP fr 6, .agg (rowC y)] = some [pbool true]) (h4 : wr64 (i + 1) = i1)
    (h5 : Ev C9 noO (.code 66 false (loopOf Try.prog 66 0) { σ := slots 19 [(0, lA l), (1, blkF 6), (7, vi ((l.length : Nat) : Int)), (8, vi i1)], h := (hO 6 7 7 7 fr es l many oa tk false) }) (.code x s)) : Ev C9 noO (.code 66 false (loopOf Try.prog 66 0) { σ := slots 19 [(0, lA l), (1, blkF 6), (7, vi ((l.length : Nat) : Int)), (8, vi i)], h := (hO 6 7 7 7 fr es l many oa tk false) }) (.code x s) :=
  sym_ev 60 _ [(site 66 9, Dec.b true), (site 66 14, Dec.row (rowC y)), (site 51 8, Dec.prim [pbool true]), (site 66 18, Dec.int i1), (site 66 8002, Dec.trunc [(site 51 4, 0)] [0, 1, 7, 8]), (site 66 8001, Dec.loop [0, 1, 7, 8] x s)] _ [] _ (by kernel_rfl) (AllP_cons h1 (AllP_cons h2 (AllP_cons h3 (AllP_cons h4 (AllP_cons (rfl : true = true) (AllP_cons (f1_6 fr es l many ho tk) (AllP_cons (rfl : true = true) (AllP_cons h5 AllP_nil))))))))
theorem r2_6 (fr : Nat → Fr) (es : List (Value × Bool × List DV)) (l : List (Int × Int)) (many : Int) (oa : AV) (tk : List (Nat × Nat)) (i i1 : Int) (y : Int × Int) (ho : OutOK oa) (x : X) (s : St) (h1 : decide (i < ((l.length : Nat) : Int)) = true) (h2 : 0 ≤ i ∧ (rowsP l)[i.toNat]? = some (rowC y)) (h3 : containsSpec [ordP fr 6, .agg (rowC y)] = some [pbool false]) (u v : Int × Int) (h4 : lookupIn C9 59 es (.agg [vi y.1, vi y.2]) false = some (.agg [vi u.1, vi u.2])) (h5 : lookupIn C9 59 es (.agg [vi (fr 6).c.1, vi (fr 6).c.2]) false = some (.agg [vi v.1, vi v.2])) (h6 : aheadSpec [.agg (rowC u), .agg (rowC v)] = some [pbool false]) (h7 : wr64 (i + 1) = i1)
    (h8 : Ev C9 noO (.code 66 false (loopOf Try.prog 66 0) { σ := slots 19 [(0, lA l), (1, blkF 6), (7, vi ((l.length : Nat) : Int)), (8, vi i1)], h := (hO 6 7 7 7 fr es l many oa tk false) }) (.code x s)) : Ev C9 noO (.code 66 false (loopOf Try.prog 66 0) { σ := slots 19 [(0, lA l), (1, blkF 6), (7, vi ((l.length : Nat) : Int)), (8, vi i)], h := (hO 6 7 7 7 fr es l many oa tk false) }) (.code x s) :=
  sym_ev 60 _ [(site 66 9, Dec.b true), (site 66 14, Dec.row (rowC y)), (site 51 8, Dec.prim [pbool false]), (site 51 13, Dec.look (.agg [vi u.1, vi u.2])), (site 51 16, Dec.look (.agg [vi v.1, vi v.2])), (site 51 17, Dec.prim [pbool false]), (site 66 18, Dec.int i1), (site 66 8002, Dec.trunc [(site 51 4, 0)] [0, 1, 7, 8]), (site 66 8001, Dec.loop [0, 1, 7, 8] x s)] _ [] _ (by kernel_rfl) (AllP_cons h1 (AllP_cons h2 (AllP_cons h3 (AllP_cons h4 (AllP_cons h5 (AllP_cons h6 (AllP_cons h7 (AllP_cons (rfl : true = true) (AllP_cons (f1_6 fr es l many ho tk) (AllP_cons (rfl : true = true) (AllP_cons h8 AllP_nil)))))))))))
theorem r3_6 (fr : Nat → Fr) (es : List (Value × Bool × List DV)) (l : List (Int × Int)) (many : Int) (oa : AV) (tk : List (Nat × Nat)) (i i1 : Int) (y : Int × Int) (ho : OutOK oa) (h1 : decide (i < ((l.length : Nat) : Int)) = true) (h2 : 0 ≤ i ∧ (rowsP l)[i.toNat]? = some (rowC y)) (h3 : containsSpec [ordP fr 6, .agg (rowC y)] = some [pbool false]) (u v : Int × Int) (h4 : lookupIn C9 59 es (.agg [vi y.1, vi y.2]) false = some (.agg [vi u.1, vi u.2])) (h5 : lookupIn C9 59 es (.agg [vi (fr 6).c.1, vi (fr 6).c.2]) false = some (.agg [vi v.1, vi v.2])) (h6 : aheadSpec [.agg (rowC u), .agg (rowC v)] = some [pbool true]) :
    Ev C9 noO (.code 66 false (loopOf Try.prog 66 0) { σ := slots 19 [(0, lA l), (1, blkF 6), (7, vi ((l.length : Nat) : Int)), (8, vi i)], h := (hO 6 7 7 7 fr es l many oa tk false) }) (.code .ret { σ := slots 19 [(4, vi i)], h := (hO 6 7 7 7 fr es l many oa tk false) }) :=
  symT_ev (n := 60) (sc := [(site 66 9, Dec.b true), (site 66 14, Dec.row (rowC y)), (site 51 8, Dec.prim [pbool false]), (site 51 13, Dec.look (.agg [vi u.1, vi u.2])), (site 51 16, Dec.look (.agg [vi v.1, vi v.2])), (site 51 17, Dec.prim [pbool true])]) (keep := [4]) (L := [(site 51 4, 0)]) (sc' := []) (by kernel_rfl) (AllP_cons h1 (AllP_cons h2 (AllP_cons h3 (AllP_cons h4 (AllP_cons h5 (AllP_cons h6 (AllP_cons (rfl : true = true) (AllP_cons (f1_6 fr es l many ho tk) (AllP_cons (rfl : true = true) AllP_nil)))))))))
theorem cf_n_6 (fr : Nat → Fr) (es : List (Value × Bool × List DV)) (l : List (Int × Int)) (many : Int) (oa : AV) (tk : List (Nat × Nat)) (h1 : ((rowsP l).length : Int) = ((l.length : Nat) : Int)) (h : Ev C9 noO (.code 66 false (loopOf Try.prog 66 0) { σ := slots 19 [(0, lA l), (1, blkF 6), (7, vi ((l.length : Nat) : Int)), (8, vi 0)], h := (hO 6 7 7 7 fr es l many oa tk false) }) (.code (.exit 0) { σ := slots 19 [], h := (hO 6 7 7 7 fr es l many oa tk false) })) :
    Ev C9 noO (.call 52 [lA l, blkF 6] (hO 6 7 7 7 fr es l many oa tk false)) (.val (vb false) (hO 6 7 7 7 fr es l many oa tk false)) :=
  sym_ev 60 _ [(site 66 7, Dec.int ((l.length : Nat) : Int)), (site 66 8001, Dec.loop [0, 1, 7, 8] (.exit 0) { σ := slots 19 [], h := (hO 6 7 7 7 fr es l many oa tk false) })] _ [] _ (by kernel_rfl) (AllP_cons h1 (AllP_cons h AllP_nil))
theorem cf_y_6 (fr : Nat → Fr) (es : List (Value × Bool × List DV)) (l : List (Int × Int)) (many : Int) (oa : AV) (tk : List (Nat × Nat)) (i : Int) (h1 : ((rowsP l).length : Int) = ((l.length : Nat) : Int)) (h : Ev C9 noO (.code 66 false (loopOf Try.prog 66 0) { σ := slots 19 [(0, lA l), (1, blkF 6), (7, vi ((l.length : Nat) : Int)), (8, vi 0)], h := (hO 6 7 7 7 fr es l many oa tk false) }) (.code .ret { σ := slots 19 [(4, vi i)], h := (hO 6 7 7 7 fr es l many oa tk false) })) (h0 : decide (i ≥ 0) = true) :
    Ev C9 noO (.call 52 [lA l, blkF 6] (hO 6 7 7 7 fr es l many oa tk false)) (.val (vb true) (hO 6 7 7 7 fr es l many oa tk false)) :=
  sym_ev 60 _ [(site 66 7, Dec.int ((l.length : Nat) : Int)), (site 66 8001, Dec.loop [0, 1, 7, 8] .ret { σ := slots 19 [(4, vi i)], h := (hO 6 7 7 7 fr es l many oa tk false) }), (site 52 8, Dec.b true)] _ [] _ (by kernel_rfl) (AllP_cons h1 (AllP_cons h (AllP_cons h0 AllP_nil)))
theorem f4_6 (fr : Nat → Fr) (es : List (Value × Bool × List DV)) (l : List (Int × Int)) (many : Int) {oa : AV} (ho : OutOK oa) (tk : List (Nat × Nat)) (brk : Bool) : ((hO 6 7 6 6 fr es l many oa tk brk).objs.all fun e => e.2.2.all (objFreeT [(site 48 4, 6)])) = true := by
  rcases ho with rfl | ⟨_, _, rfl⟩ <;> kernel_rfl
theorem pne_6 (fr : Nat → Fr) (es : List (Value × Bool × List DV)) (l : List (Int × Int)) (many : Int) (oa : AV) (tk : List (Nat × Nat)) (k : Int) (hf : fitsSpec [.one (.mp es), ordP fr 6] = some [pint k]) (h0 : (k == 0) = false) (oa1 : AV) (ho1 : OutOK oa1) (tk1 : List (Nat × Nat)) (h21 : ((rowsP l).length : Int) = ((l.length : Nat) : Int))
    (hl : Ev C9 noO (.code 48 false (loopOf Try.prog 48 0) { σ := fS l 0 6, h := (hO 6 7 7 6 fr es l many oa tk false) }) (.code (.exit 0) { σ := slots 47 [], h := (hO 6 7 7 6 fr es l many oa1 tk1 false) })) : Ev C9 noO (.call 48 (args48 6) (hO 6 7 6 6 fr es l many oa tk false)) (.val unitA (hO 6 7 6 6 fr es l many oa1 tk1 false)) :=
  symCT_ev (n := 200) (sc := [(site 48 11, Dec.prim [pint k]), (site 48 12, Dec.b false), (site 48 21, Dec.int ((l.length : Nat) : Int)), (site 48 8001, Dec.loop [1, 2, 3, 4, 20, 21, 22] (.exit 0) { σ := slots 47 [], h := (hO 6 7 7 6 fr es l many oa1 tk1 false) })]) (keep := []) (L := [(site 48 4, 6)]) (sc' := []) (by kernel_rfl) (AllP_cons hf (AllP_cons h0 (AllP_cons h21 (AllP_cons hl (AllP_cons (rfl : true = true) (AllP_cons (f4_6 fr es l many ho1 tk1 false) (AllP_cons (rfl : true = true) AllP_nil)))))))
theorem pnr_6 (fr : Nat → Fr) (es : List (Value × Bool × List DV)) (l : List (Int × Int)) (many : Int) (oa : AV) (tk : List (Nat × Nat)) (k : Int) (hf : fitsSpec [.one (.mp es), ordP fr 6] = some [pint k]) (h0 : (k == 0) = false) (oa1 : AV) (ho1 : OutOK oa1) (tk1 : List (Nat × Nat)) (h21 : ((rowsP l).length : Int) = ((l.length : Nat) : Int))
    (hl : Ev C9 noO (.code 48 false (loopOf Try.prog 48 0) { σ := fS l 0 6, h := (hO 6 7 7 6 fr es l many oa tk false) }) (.code .ret { σ := slots 47 [], h := (hO 6 7 7 6 fr es l many oa1 tk1 true) })) : Ev C9 noO (.call 48 (args48 6) (hO 6 7 6 6 fr es l many oa tk false)) (.val unitA (hO 6 7 6 6 fr es l many oa1 tk1 true)) :=
  symCT_ev (n := 200) (sc := [(site 48 11, Dec.prim [pint k]), (site 48 12, Dec.b false), (site 48 21, Dec.int ((l.length : Nat) : Int)), (site 48 8001, Dec.loop [1, 2, 3, 4, 20, 21, 22] .ret { σ := slots 47 [], h := (hO 6 7 7 6 fr es l many oa1 tk1 true) })]) (keep := []) (L := [(site 48 4, 6)]) (sc' := []) (by kernel_rfl) (AllP_cons hf (AllP_cons h0 (AllP_cons h21 (AllP_cons hl (AllP_cons (rfl : true = true) (AllP_cons (f4_6 fr es l many ho1 tk1 true) (AllP_cons (rfl : true = true) AllP_nil)))))))
theorem py0e_6 (fr : Nat → Fr) (es : List (Value × Bool × List DV)) (l : List (Int × Int)) (many : Int) (hf : fitsSpec [.one (.mp es), ordP fr 6] = some [pint 0]) (hcl : cloneSpec [ordP fr 6] = some [ordP fr 6]) (h52 : ((0 : Int) == many) = false) (oa1 : AV) (ho1 : OutOK oa1) (tk1 : List (Nat × Nat)) (h21 : ((rowsP l).length : Int) = ((l.length : Nat) : Int))
    (hl : Ev C9 noO (.code 48 false (loopOf Try.prog 48 0) { σ := fS l 0 6, h := (hO 6 7 7 6 fr es l many (.st 1 [[(.sl 2 false (fr 6).r)]] (site 24 56) 1) [(site 24 56, 1)] false) }) (.code (.exit 0) { σ := slots 47 [], h := (hO 6 7 7 6 fr es l many oa1 tk1 false) })) : Ev C9 noO (.call 48 (args48 6) (hO 6 7 6 6 fr es l many (.d (.v (.slice none 0 0))) [] false)) (.val unitA (hO 6 7 6 6 fr es l many oa1 tk1 false)) :=
  symCT_ev (n := 200) (sc := [(site 48 11, Dec.prim [pint 0]), (site 48 16, Dec.prim [ordP fr 6]), (site 24 52, Dec.b false), (site 48 21, Dec.int ((l.length : Nat) : Int)), (site 48 8001, Dec.loop [1, 2, 3, 4, 20, 21, 22] (.exit 0) { σ := slots 47 [], h := (hO 6 7 7 6 fr es l many oa1 tk1 false) })]) (keep := []) (L := [(site 48 4, 6)]) (sc' := []) (by kernel_rfl) (AllP_cons hf (AllP_cons hcl (AllP_cons h52 (AllP_cons h21 (AllP_cons hl (AllP_cons (rfl : true = true) (AllP_cons (f4_6 fr es l many ho1 tk1 false) (AllP_cons (rfl : true = true) AllP_nil))))))))
theorem py0r_6 (fr : Nat → Fr) (es : List (Value × Bool × List DV)) (l : List (Int × Int)) (many : Int) (hf : fitsSpec [.one (.mp es), ordP fr 6] = some [pint 0]) (hcl : cloneSpec [ordP fr 6] = some [ordP fr 6]) (h52 : ((0 : Int) == many) = false) (oa1 : AV) (ho1 : OutOK oa1) (tk1 : List (Nat × Nat)) (h21 : ((rowsP l).length : Int) = ((l.length : Nat) : Int))
    (hl : Ev C9 noO (.code 48 false (loopOf Try.prog 48 0) { σ := fS l 0 6, h := (hO 6 7 7 6 fr es l many (.st 1 [[(.sl 2 false (fr 6).r)]] (site 24 56) 1) [(site 24 56, 1)] false) }) (.code .ret { σ := slots 47 [], h := (hO 6 7 7 6 fr es l many oa1 tk1 true) })) : Ev C9 noO (.call 48 (args48 6) (hO 6 7 6 6 fr es l many (.d (.v (.slice none 0 0))) [] false)) (.val unitA (hO 6 7 6 6 fr es l many oa1 tk1 true)) :=
  symCT_ev (n := 200) (sc := [(site 48 11, Dec.prim [pint 0]), (site 48 16, Dec.prim [ordP fr 6]), (site 24 52, Dec.b false), (site 48 21, Dec.int ((l.length : Nat) : Int)), (site 48 8001, Dec.loop [1, 2, 3, 4, 20, 21, 22] .ret { σ := slots 47 [], h := (hO 6 7 7 6 fr es l many oa1 tk1 true) })]) (keep := []) (L := [(site 48 4, 6)]) (sc' := []) (by kernel_rfl) (AllP_cons hf (AllP_cons hcl (AllP_cons h52 (AllP_cons h21 (AllP_cons hl (AllP_cons (rfl : true = true) (AllP_cons (f4_6 fr es l many ho1 tk1 true) (AllP_cons (rfl : true = true) AllP_nil))))))))
theorem py1e_6 (fr : Nat → Fr) (es : List (Value × Bool × List DV)) (l : List (Int × Int)) (many : Int) (rows : List (List DV)) (g : Nat) (n : Int) (hf : fitsSpec [.one (.mp es), ordP fr 6] = some [pint 0]) (hcl : cloneSpec [ordP fr 6] = some [ordP fr 6]) (hn : (rows.length : Int) = n) (h52 : (n == many) = false) (hfp : false = false ∧ g = g ∧ fitsP rows.length 1 24) (oa1 : AV) (ho1 : OutOK oa1) (tk1 : List (Nat × Nat)) (h21 : ((rowsP l).length : Int) = ((l.length : Nat) : Int))
    (hl : Ev C9 noO (.code 48 false (loopOf Try.prog 48 0) { σ := fS l 0 6, h := (hO 6 7 7 6 fr es l many (.st 1 (rows ++ [[(.sl 2 false (fr 6).r)]]) (site 24 56) (g + 1 + 1)) [(site 24 56, g + 1 + 1)] false) }) (.code (.exit 0) { σ := slots 47 [], h := (hO 6 7 7 6 fr es l many oa1 tk1 false) })) : Ev C9 noO (.call 48 (args48 6) (hO 6 7 6 6 fr es l many (.st 1 rows (site 24 56) g) [(site 24 56, g)] false)) (.val unitA (hO 6 7 6 6 fr es l many oa1 tk1 false)) :=
  symCT_ev (n := 200) (sc := [(site 48 11, Dec.prim [pint 0]), (site 48 16, Dec.prim [ordP fr 6]), (site 24 50, Dec.int n), (site 24 52, Dec.b false), (site 24 56, Dec.app false), (site 48 21, Dec.int ((l.length : Nat) : Int)), (site 48 8001, Dec.loop [1, 2, 3, 4, 20, 21, 22] (.exit 0) { σ := slots 47 [], h := (hO 6 7 7 6 fr es l many oa1 tk1 false) })]) (keep := []) (L := [(site 48 4, 6)]) (sc' := []) (by kernel_rfl) (AllP_cons hf (AllP_cons hcl (AllP_cons hn (AllP_cons h52 (AllP_cons hfp (AllP_cons h21 (AllP_cons hl (AllP_cons (rfl : true = true) (AllP_cons (f4_6 fr es l many ho1 tk1 false) (AllP_cons (rfl : true = true) AllP_nil))))))))))
theorem py1r_6 (fr : Nat → Fr) (es : List (Value × Bool × List DV)) (l : List (Int × Int)) (many : Int) (rows : List (List DV)) (g : Nat) (n : Int) (hf : fitsSpec [.one (.mp es), ordP fr 6] = some [pint 0]) (hcl : cloneSpec [ordP fr 6] = some [ordP fr 6]) (hn : (rows.length : Int) = n) (h52 : (n == many) = false) (hfp : false = false ∧ g = g ∧ fitsP rows.length 1 24) (oa1 : AV) (ho1 : OutOK oa1) (tk1 : List (Nat × Nat)) (h21 : ((rowsP l).length : Int) = ((l.length : Nat) : Int))
    (hl : Ev C9 noO (.code 48 false (loopOf Try.prog 48 0) { σ := fS l 0 6, h := (hO 6 7 7 6 fr es l many (.st 1 (rows ++ [[(.sl 2 false (fr 6).r)]]) (site 24 56) (g + 1 + 1)) [(site 24 56, g + 1 + 1)] false) }) (.code .ret { σ := slots 47 [], h := (hO 6 7 7 6 fr es l many oa1 tk1 true) })) : Ev C9 noO (.call 48 (args48 6) (hO 6 7 6 6 fr es l many (.st 1 rows (site 24 56) g) [(site 24 56, g)] false)) (.val unitA (hO 6 7 6 6 fr es l many oa1 tk1 true)) :=
  symCT_ev (n := 200) (sc := [(site 48 11, Dec.prim [pint 0]), (site 48 16, Dec.prim [ordP fr 6]), (site 24 50, Dec.int n), (site 24 52, Dec.b false), (site 24 56, Dec.app false), (site 48 21, Dec.int ((l.length : Nat) : Int)), (site 48 8001, Dec.loop [1, 2, 3, 4, 20, 21, 22] .ret { σ := slots 47 [], h := (hO 6 7 7 6 fr es l many oa1 tk1 true) })]) (keep := []) (L := [(site 48 4, 6)]) (sc' := []) (by kernel_rfl) (AllP_cons hf (AllP_cons hcl (AllP_cons hn (AllP_cons h52 (AllP_cons hfp (AllP_cons h21 (AllP_cons hl (AllP_cons (rfl : true = true) (AllP_cons (f4_6 fr es l many ho1 tk1 true) (AllP_cons (rfl : true = true) AllP_nil))))))))))
theorem pb0_6 (fr : Nat → Fr) (es : List (Value × Bool × List DV)) (l : List (Int × Int)) (many : Int) (hf : fitsSpec [.one (.mp es), ordP fr 6] = some [pint 0]) (hcl : cloneSpec [ordP fr 6] = some [ordP fr 6]) (h52 : ((0 : Int) == many) = true) : Ev C9 noO (.call 48 (args48 6) (hO 6 7 6 6 fr es l many (.d (.v (.slice none 0 0))) [] false)) (.val unitA (hO 6 7 6 6 fr es l many (.d (.v (.slice none 0 0))) [] true)) :=
  symCT_ev (n := 200) (sc := [(site 48 11, Dec.prim [pint 0]), (site 48 16, Dec.prim [ordP fr 6]), (site 24 52, Dec.b true)]) (keep := []) (L := [(site 48 4, 6)]) (sc' := []) (by kernel_rfl) (AllP_cons hf (AllP_cons hcl (AllP_cons h52 (AllP_cons (rfl : true = true) (AllP_cons (rfl : true = true) (AllP_cons (rfl : true = true) AllP_nil))))))
theorem pb1_6 (fr : Nat → Fr) (es : List (Value × Bool × List DV)) (l : List (Int × Int)) (many : Int) (rows : List (List DV)) (g : Nat) (n : Int) (hf : fitsSpec [.one (.mp es), ordP fr 6] = some [pint 0]) (hcl : cloneSpec [ordP fr 6] = some [ordP fr 6]) (hn : (rows.length : Int) = n) (h52 : (n == many) = true) : Ev C9 noO (.call 48 (args48 6) (hO 6 7 6 6 fr es l many (.st 1 rows (site 24 56) g) [(site 24 56, g)] false)) (.val unitA (hO 6 7 6 6 fr es l many (.st 1 rows (site 24 56) g) [(site 24 56, g)] true)) :=
  symCT_ev (n := 200) (sc := [(site 48 11, Dec.prim [pint 0]), (site 48 16, Dec.prim [ordP fr 6]), (site 24 50, Dec.int n), (site 24 52, Dec.b true)]) (keep := []) (L := [(site 48 4, 6)]) (sc' := []) (by kernel_rfl) (AllP_cons hf (AllP_cons hcl (AllP_cons hn (AllP_cons h52 (AllP_cons (rfl : true = true) (AllP_cons (rfl : true = true) (AllP_cons (rfl : true = true) AllP_nil)))))))

end Go.Ev
