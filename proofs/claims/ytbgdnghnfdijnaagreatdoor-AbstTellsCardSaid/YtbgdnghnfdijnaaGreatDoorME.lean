/- What the proof of this claim needs: part ME. No conditions. -/
import Derived.Test.YtbgdnghnfdijnaaGreatDoorMD
set_option linter.unusedVariables false
set_option linter.unusedSimpArgs false
namespace Go.Ev
open Go Go.RowKit Go.Proofs
def Sat1 (C : Ctx) (g : FuncId) (ps rs : List PV) : Prop := ∀ (F : Nat → Nat → Prop) (w : World) (vs : List Value), (∀ b o, F b o → b < w.heap.size) → GlobF C F w → RPs F w ps vs →
  Calls C.P g vs.toArray w fun e w' => ∃ v F', e = .returned v ∧ Below w.heap.size w w' ∧ (∀ b o, F b o → F' b o) ∧ (∀ b o, F' b o → b < w.heap.size → F b o) ∧ (∀ b o, F' b o → b < w'.heap.size) ∧ RR F' w' rs v
theorem AJ.of1 {C : Ctx} {g : FuncId} {spec : List PV → Option (List PV)} (h : ∀ ps rs, spec ps = some rs → Sat1 C g ps rs) : AJ C g spec := h
open Classical in
theorem sat1_ev {C : Ctx} {O : Task → Res → Prop} (hP : Aw C) (hO : ∀ t r, O t r → Mot C t r) (hm : C.P.follows .mixedOrders = true) {g : FuncId} {ps ps0 rs rs0 : List PV} (h1 : WL ps ps0) (h2 : WL rs0 rs)
  (h : ∃ a h1 h2, Ev C O (.call g (ps0.map ofPV) {}) (.val a h1) ∧ resA h1 a = some (rs0, h2)) : Sat1 C g ps rs :=
 Bh (spec := fun q => if q = ps then some rs else none) hP hO hm (fun q r hq => by
  split at hq
  ·rename_i e
   subst e
   simp only [Option.some.injEq] at hq
   subst hq
   exact ⟨ps0, rs0, h1, h2, h⟩
  ·cases hq) ps rs (by simp)
theorem Sat1.mn {C : Ctx} {g : FuncId} {sz : Nat} {rows : A8} {rs : List PV} (h0 : rows = [] → Sat1 C g [.one dnil] rs) (he : rows = [] → ∀ a c, Sat1 C g [.one (.v (.slice (some a) 0 c))] rs) (h1 : Sat1 C g [.one (.sl sz false rows)] rs) : Sat1 C g [.one (.mn sz rows)] rs := by
 intro F w vs hF hG hvs
 have hl := hvs.1
 match vs, hl with
 | [v], _ =>
  have hv := hvs.2 0 _ v rfl rfl
  have go : ∀ (d : DV), RD F w d v → RPs F w [.one d] [v] := fun d hd => ⟨rfl, fun i q x hq hx => by
   cases i with
   | zero =>
    simp only [List.getElem?_cons_zero, Option.some.injEq] at hq hx
    subst hq; subst hx
    exact .one _ _ hd
   | succ i => simp at hq⟩
  cases hv with
  | one _ _ hr =>
   cases hr with
   | mn0 => exact h0 rfl F w _ hF hG (go _ (.v _ rfl))
   | mne _ a c => exact he rfl a c F w _ hF hG (go _ (.v _ rfl))
   | mn _ _ _ hr => exact h1 F w _ hF hG (go _ hr)
def clnS (sz : Nat) : Spec
 | [.one (.mn sz' rows)] => if sz' = sz ∧ rows.length < 2 ^ 30 then some [.one (.mn sz rows)] else none
 | _ => none
theorem cln_nil : sV C0 213 [.one dnil] [] = some ([.one dnil], [], []) := by kernel_rfl
theorem cln_o (a : Addr) (c : Nat) : sV C0 213 [.one (.v (.slice (some a) 0 c))] [] = some ([.one (.sl 6 true [])], [], []) := by kernel_rfl
theorem cln_e (f : Bool) (rows : A8) : sV C0 213 [.one (.sl 6 f rows)] [(A1 213 7, .app true)] = some ([.one (.sl 6 true [])], [], [rows.isEmpty = true]) := by kernel_rfl
theorem cln_r (f : Bool) (rows : A8) : sV C0 213 [.one (.sl 6 f rows)] [(A1 213 7, .app false)] = some ([.one (.sl 6 false rows)], [], [rows.isEmpty = false ∧ Am 0 rows.length 40]) := by kernel_rfl
theorem cln_sat : AJ C0 213 (clnS 6) := AJ.of1 fun ps rs hs => by
 unfold clnS at hs
 split at hs
 ·rename_i sz rows
  split at hs
  ·rename_i hc
   obtain ⟨rfl, hl⟩ := hc
   cases hs
   refine Sat1.mn (fun e => ?_) (fun e a c => ?_) ?_
   ·subst e
    exact sat1_ev (O := Ab) BN (fun _ _ h => h.elim) Bm (.same _) (.cons (.one (.nil 6)) .nil) (A4 cln_nil A2)
   ·subst e
    exact sat1_ev (O := Ab) BN (fun _ _ h => h.elim) Bm (.same _) (.cons (.one (.row 6 true [])) .nil) (A4 (cln_o a c) A2)
   ·cases rows with
    | nil => exact sat1_ev (O := Ab) BN (fun _ _ h => h.elim) Bm (.same _) (.cons (.one (.row 6 true [])) .nil) (A4 (cln_e false []) (A0 rfl A2))
    | cons r l => exact sat1_ev (O := Ab) BN (fun _ _ h => h.elim) Bm (.same _) (.cons (.one (.row 6 false (r :: l))) .nil) (A4 (cln_r false (r :: l)) (A0 ⟨rfl, by unfold Am; omega⟩ A2))
  ·cases hs
 ·cases hs
noncomputable def CCl : Ctx := Ad C0 213 (clnS 6)
theorem hPCl : Aw CCl := A7 BN (cln_sat.ctx rfl rfl) (by kernel_rfl)
def tcellw (root : Int) (rows : A8) : AO := .cells [vi root, .d (.mn 6 rows)] false
def wcellw (root : Int) (rows : A8) : AO := .cells [.d (.mn 6 rows), vi root, .fn (.fn (.func 214)) [.ptr (A1 182 11) 0 0] [], .fn (.fn (.func 215)) [.ptr (A1 182 11) 0 0] []] false
def Bo (root : Int) (rows : A8) (a : AV) (cs : List AV) (t : AC) : H := { objs := [(A1 182 1, 1, [tcellw root rows]), (A1 182 11, 1, [wcellw root rows]), (A1 183 4, 1, [.cells [a] false]), (A1 183 21, 1, [.cells cs false]), (A1 187 1, 1, [tcellw root rows])], toks := t }
def tbHw (root : Int) (rows : A8) : H := { objs := [(A1 182 1, 1, [tcellw root rows]), (A1 182 11, 1, [wcellw root rows]), (A1 187 1, 1, [tcellw root rows])] }
def twAw (x up : Int) (n : Nat) : List AV := [.ptr (A1 182 11) 0 0, vi x, vi up, .hs (A1 183 21) 0 0 n 1, .ptr (A1 183 4) 0 0]
noncomputable def twCw (root : Int) (rows : A8) (a : AV) (cs : List AV) (t : AC) (x up : Int) (n : Nat) (sc : Ah) : SM Res := AY CCl Ab 60 (.call 216 (twAw x up n) (Bo root rows a cs t)) sc
theorem tw_endw (root up : Int) (rows : A8) (a : AV) (cs : List AV) (t : AC) (n : Nat) : twCw root rows a cs t (-1) up n [] = some (.val (vb true) (Bo root rows a cs t), [], []) := by kernel_rfl
theorem tw_negw (root x up : Int) (rows : A8) (a : AV) (cs : List AV) (t : AC) (n : Nat) : twCw root rows a cs t x up n [(A1 216 12, .b false), (A1 216 14, .b true)] = some (.val (vb false) (Bo root rows a cs t), [], [(x == -1) = false, decide (x < 0) = true]) := by kernel_rfl
theorem tw_bigw (root x up : Int) (rows : A8) (a : AV) (cs : List AV) (t : AC) (n : Nat) : twCw root rows a cs t x up n [(A1 216 12, .b false), (A1 216 14, .b false), (A1 216 23, .b true)] = some (.val (vb false) (Bo root rows a cs t), [], [(x == -1) = false, decide (x < 0) = false, decide (x ≥ (rows.length : Int)) = true]) := by kernel_rfl
def twSw (m : Nat) (z : Bool) (l : Ah) : Ah := (A1 216 12, .b false) :: (A1 216 14, .b false) :: (A1 216 23, .b false) :: (A1 216 28, .idx m) :: (A1 216 29, .ld (vb z)) :: l
def twOw (x : Int) (rows : A8) (cs : List AV) (n m : Nat) (z : Bool) (l : List Prop) : List Prop := ((x == -1) = false) :: (decide (x < 0) = false) :: (decide (x ≥ (rows.length : Int)) = false) :: (x = m ∧ m < n) :: (AE C0 4 cs (0 + m * 1) = some (vb z)) :: l
theorem tw_metw (root x up : Int) (rows : A8) (a : AV) (cs : List AV) (t : AC) (n m : Nat) : twCw root rows a cs t x up n (twSw m true []) = some (.val (vb false) (Bo root rows a cs t), [], twOw x rows cs n m true []) := by kernel_rfl
def BU (b r : Bool) (nv nl nr nu : Int) : List DV := [db b, db r, du nv, di nl, di nr, di nu]
theorem tw_outw (root x up : Int) (rows : A8) (a : AV) (cs : List AV) (t : AC) (n m : Nat) (r : Bool) (nv nl nr nu : Int) : twCw root rows a cs t x up n (twSw m false [(A1 216 38, .row (BU false r nv nl nr nu))]) = some (.val (vb false) (Bo root rows a cs t), [], twOw x rows cs n m false [0 ≤ x ∧ rows[x.toNat]? = some (BU false r nv nl nr nu)]) := by kernel_rfl
def twIw (x : Int) (rows : A8) (r : Bool) (nv nl nr nu : Int) : Prop := 0 ≤ x ∧ rows[x.toNat]? = some (BU true r nv nl nr nu)
theorem tw_upw (root x up : Int) (rows : A8) (a : AV) (cs : List AV) (t : AC) (n m : Nat) (r : Bool) (nv nl nr nu : Int) : twCw root rows a cs t x up n (twSw m false [(A1 216 38, .row (BU true r nv nl nr nu)), (A1 230 10, .row (BU true r nv nl nr nu)), (A1 216 50, .b true)]) =
  some (.val (vb false) (Bo root rows a cs t), [], twOw x rows cs n m false [twIw x rows r nv nl nr nu, twIw x rows r nv nl nr nu, (nu != up) = true]) := by kernel_rfl
def twMw (m : Nat) (cs' : List AV) (r : Bool) (nv nl nr nu : Int) (z : Bool) (h1 : H) (l : Ah) : Ah := twSw m false ((A1 216 38, .row (BU true r nv nl nr nu)) :: (A1 230 10, .row (BU true r nv nl nr nu)) :: (A1 216 50, .b false) :: (A1 216 54, .idx m) :: (A1 216 8000, .sto cs') :: (A1 214 10, .row (BU true r nv nl nr nu)) :: (A1 216 66, .call (vb z) h1) :: l)
def twQw (root x up : Int) (rows : A8) (a : AV) (cs cs' : List AV) (t : AC) (n m : Nat) (r : Bool) (nv nl nr nu : Int) (z : Bool) (h1 : H) (l : List Prop) : List Prop := twOw x rows cs n m false (twIw x rows r nv nl nr nu :: twIw x rows r nv nl nr nu :: ((nu != up) = false) :: (x = m ∧ m < n) :: stoEq C0 4 cs (0 + m * 1) (vb true) cs' :: twIw x rows r nv nl nr nu :: Ev CCl Ab (.call 216 (twAw nl x n) (Bo root rows a cs' t)) (.val (vb z) h1) :: l)
theorem tw_lw (root x up : Int) (rows : A8) (a a1 : AV) (cs cs' cs1 : List AV) (t t1 : AC) (n m : Nat) (r : Bool) (nv nl nr nu : Int) : twCw root rows a cs t x up n (twMw m cs' r nv nl nr nu false (Bo root rows a1 cs1 t1) []) = some (.val (vb false) (Bo root rows a1 cs1 t1), [], twQw root x up rows a cs cs' t n m r nv nl nr nu false (Bo root rows a1 cs1 t1) []) := by kernel_rfl
theorem tw_rnw (root x up : Int) (rows : A8) (a a2 : AV) (cs cs' cs1 cs2 : List AV) (t t2 : AC) (n m : Nat) (r z : Bool) (nv nl nr nu : Int) : twCw root rows a cs t x up n (twMw m cs' r nv nl nr nu true (Bo root rows (.d dnil) cs1 []) [(A1 216 74, .app false), (A1 215 10, .row (BU true r nv nl nr nu)), (A1 216 87, .call (vb z) (Bo root rows a2 cs2 t2))]) =
  some (.val (vb z) (Bo root rows a2 cs2 t2), [], twQw root x up rows a cs cs' t n m r nv nl nr nu true (Bo root rows (.d dnil) cs1 []) [false = false ∧ Am 0 1 8, twIw x rows r nv nl nr nu, Ev CCl Ab (.call 216 (twAw nr x n) (Bo root rows (.st 1 [[di x]] (A1 216 74) 1) cs1 [(A1 216 74, 1)])) (.val (vb z) (Bo root rows a2 cs2 t2))]) := by kernel_rfl
theorem tw_rsw (root x up : Int) (rows out : A8) (g : Nat) (a a2 : AV) (cs cs' cs1 cs2 : List AV) (t t2 : AC) (n m : Nat) (r z : Bool) (nv nl nr nu : Int) : twCw root rows a cs t x up n (twMw m cs' r nv nl nr nu true (Bo root rows (.st 1 out (A1 216 74) g) cs1 [(A1 216 74, g)]) [(A1 216 74, .app false), (A1 215 10, .row (BU true r nv nl nr nu)), (A1 216 87, .call (vb z) (Bo root rows a2 cs2 t2))]) =
  some (.val (vb z) (Bo root rows a2 cs2 t2), [], twQw root x up rows a cs cs' t n m r nv nl nr nu true (Bo root rows (.st 1 out (A1 216 74) g) cs1 [(A1 216 74, g)]) [false = false ∧ (g = g ∧ Am out.length 1 8), twIw x rows r nv nl nr nu, Ev CCl Ab (.call 216 (twAw nr x n) (Bo root rows (.st 1 (out ++ [[di x]]) (A1 216 74) (g + 1 + 1)) cs1 [(A1 216 74, g + 1 + 1)])) (.val (vb z) (Bo root rows a2 cs2 t2))]) := by kernel_rfl
def ouA (out : List Int) : AV := apR 1 (A1 216 74) (A6 out)
def ouT (out : List Int) : AC := Ct (A1 216 74) (A6 out)
theorem metC_free (L : List Nat) (n : Nat) (seen : List Int) : AT L (AK n seen) = true := by
 unfold AK
 induction List.range n with
 | nil => rfl
 | cons a l ih => simp only [List.map_cons, AT, ih]; rfl
theorem tw_walkw (root : Int) (ns : List Nod) (hn : ns.length ≤ 64) : ∀ (k : Nat) (x up : Int) (seen out : List Int), gIn ns seen → left ns.length seen < k → out.length ≤ seen.length →
  ((AZ ns k x up seen).2.2 = true → Ev CCl Ab (.call 216 (twAw x up ns.length) (Bo root (A9 ns) (ouA out) (AK ns.length seen) (ouT out))) (.val (vb true) (Bo root (A9 ns) (ouA (out ++ (AZ ns k x up seen).1)) (AK ns.length (AZ ns k x up seen).2.1) (ouT (out ++ (AZ ns k x up seen).1))))) ∧
  ((AZ ns k x up seen).2.2 = false → ∃ a cs t, Ev CCl Ab (.call 216 (twAw x up ns.length) (Bo root (A9 ns) (ouA out) (AK ns.length seen) (ouT out))) (.val (vb false) (Bo root (A9 ns) a cs t)))
 | 0, x, up, seen, out, hin, hk, ho => by omega
 | k + 1, x, up, seen, out, hin, hk, ho => by
  have hlen : seen.length ≤ ns.length := by unfold gIn at hin; omega
  by_cases hx : x = -1
  ·subst hx
   have e : AZ ns (k + 1) (-1) up seen = ([], seen, true) := by unfold AZ; rw [if_pos rfl]
   rw [e]
   exact ⟨fun _ => by rw [List.append_nil]; exact Aa _ _ _ _ _ _ (tw_endw root up _ _ _ _ _) A2, fun h => (by cases h)⟩
  ·have b0 : (x == -1) = false := by simpa using hx
   have bad : gok ns x up seen = none → (∃ a cs t, Ev CCl Ab (.call 216 (twAw x up ns.length) (Bo root (A9 ns) (ouA out) (AK ns.length seen) (ouT out))) (.val (vb false) (Bo root (A9 ns) a cs t))) →
    ((AZ ns (k + 1) x up seen).2.2 = true → Ev CCl Ab (.call 216 (twAw x up ns.length) (Bo root (A9 ns) (ouA out) (AK ns.length seen) (ouT out))) (.val (vb true) (Bo root (A9 ns) (ouA (out ++ (AZ ns (k + 1) x up seen).1)) (AK ns.length (AZ ns (k + 1) x up seen).2.1) (ouT (out ++ (AZ ns (k + 1) x up seen).1))))) ∧
    ((AZ ns (k + 1) x up seen).2.2 = false → ∃ a cs t, Ev CCl Ab (.call 216 (twAw x up ns.length) (Bo root (A9 ns) (ouA out) (AK ns.length seen) (ouT out))) (.val (vb false) (Bo root (A9 ns) a cs t))) := fun hg he => by
    have e : AZ ns (k + 1) x up seen = ([], seen, false) := by unfold AZ; rw [if_neg hx, hg]
    rw [e]
    exact ⟨fun h => (by cases h), fun _ => he⟩
   by_cases hx0 : x < 0
   ·have hg : gok ns x up seen = none := by simp [gok, Bk, hx0]
    exact bad hg ⟨_, _, _, Aa _ _ _ _ _ _ (tw_negw root x up _ _ _ _ _) (A0 b0 (A0 (decide_eq_true hx0) A2))⟩
   ·have b1 : decide (x < 0) = false := decide_eq_false hx0
    obtain ⟨i, rfl⟩ := Int.eq_ofNat_of_zero_le (Int.not_lt.1 hx0)
    have hna : Bk ns (i : Int) = ns[i]? := by unfold Bk; rw [if_neg hx0, Int.toNat_natCast]
    by_cases hi : i < ns.length
    ·have b2 : decide ((i : Int) ≥ ((A9 ns).length : Int)) = false := decide_eq_false (by rw [Ay]; omega)
     have hld : AE C0 4 (AK ns.length seen) (0 + i * 1) = some (vb (seen.contains (i : Int))) := by rw [ld1 agg4, metC_at hi]
     cases hm : seen.contains (i : Int) with
     | true =>
      rw [hm] at hld
      have hg : gok ns (i : Int) up seen = none := by unfold gok; rw [hna, List.getElem?_eq_getElem hi]; simp only [hm, Bool.true_or, if_true]
      exact bad hg ⟨_, _, _, Aa _ _ _ _ _ _ (tw_metw root _ up _ _ _ _ _ i) (A0 b0 (A0 b1 (A0 b2 (A0 ⟨rfl, hi⟩ (A0 hld A2)))))⟩
     | false =>
      rw [hm] at hld
      have hr0 : 0 ≤ (i : Int) ∧ (A9 ns)[((i : Int)).toNat]? = some (ns[i]).cs := ⟨by omega, AS (List.getElem?_eq_getElem hi)⟩
      have hgo : gok ns (i : Int) up seen = if (!ns[i].inn || ns[i].u != up) = true then none else some ns[i] := by
       unfold gok; rw [hna, List.getElem?_eq_getElem hi]; simp only [hm, Bool.false_or]
      generalize ns[i] = n at hr0 hgo
      obtain ⟨a, r, nv, nl, nr, nu⟩ := n
      have ob : ∀ {l : List Prop}, AI l → AI (twOw (i : Int) (A9 ns) (AK ns.length seen) ns.length i false l) := fun h =>
       A0 b0 (A0 b1 (A0 b2 (A0 ⟨rfl, hi⟩ (A0 hld h))))
      cases a with
      | false => exact bad (by rw [hgo]; rfl) ⟨_, _, _, Aa _ _ _ _ _ _ (tw_outw root _ up _ _ _ _ _ i r nv nl nr nu) (ob (A0 hr0 A2))⟩
      | true =>
       by_cases hu : nu = up
       ·subst hu
        have b3 : (nu != nu) = false := by simp
        have hg : gok ns (i : Int) nu seen = some ⟨true, r, nv, nl, nr, nu⟩ := by rw [hgo]; simp
        obtain ⟨hin2, hl2⟩ := gIn_snoc hin hg
        obtain ⟨hin3, hl3, hn3⟩ := gth_in k nl (i : Int) (seen ++ [(i : Int)]) hin2
        simp only [List.length_append, List.length_cons, List.length_nil] at hn3
        have ih1 := tw_walkw root ns hn k nl (i : Int) (seen ++ [(i : Int)]) out hin2 (by omega) (by simp only [List.length_append]; omega)
        have ih2 := tw_walkw root ns hn k nr (i : Int) (AZ ns k nl (i : Int) (seen ++ [(i : Int)])).2.1 (out ++ (AZ ns k nl (i : Int) (seen ++ [(i : Int)])).1 ++ [(i : Int)]) hin3 (by omega) (by simp only [List.length_append, List.length_cons, List.length_nil]; omega)
        have e : AZ ns (k + 1) (i : Int) nu seen = if (AZ ns k nl (i : Int) (seen ++ [(i : Int)])).2.2 then
          ((AZ ns k nl (i : Int) (seen ++ [(i : Int)])).1 ++ (i : Int) :: (AZ ns k nr (i : Int) (AZ ns k nl (i : Int) (seen ++ [(i : Int)])).2.1).1, (AZ ns k nr (i : Int) (AZ ns k nl (i : Int) (seen ++ [(i : Int)])).2.1).2.1, (AZ ns k nr (i : Int) (AZ ns k nl (i : Int) (seen ++ [(i : Int)])).2.1).2.2)
         else ([], (AZ ns k nl (i : Int) (seen ++ [(i : Int)])).2.1, false) := by
         show (if (i : Int) = -1 then ([], seen, true) else match gok ns (i : Int) nu seen with | none => ([], seen, false) | some n => _) = _
         rw [if_neg hx, hg]
        rw [e]
        have hst : stoEq C0 4 (AK ns.length seen) (0 + i * 1) (vb true) (AK ns.length (seen ++ [(i : Int)])) := by
         rw [← metC_set hi]
         exact sto1 size4 rfl rfl (by rw [metC_len]; exact hi)
        have hol : (out ++ (AZ ns k nl (i : Int) (seen ++ [(i : Int)])).1).length ≤ 64 := by
         have h3 : (AZ ns k nl (i : Int) (seen ++ [(i : Int)])).2.1.length + left ns.length (AZ ns k nl (i : Int) (seen ++ [(i : Int)])).2.1 ≤ ns.length := hin3
         rw [List.length_append]; omega
        generalize AZ ns k nl (i : Int) (seen ++ [(i : Int)]) = A at ih1 ih2 hol ⊢
        obtain ⟨al, as1, az⟩ := A
        simp only at ih1 ih2 hol ⊢
        generalize AZ ns k nr (i : Int) as1 = Bq at ih2 ⊢
        obtain ⟨bl, bs, bz⟩ := Bq
        simp only at ih2
        cases az with
        | false =>
         simp only [Bool.false_eq_true, if_false]
         refine ⟨fun h => (by cases h), fun _ => ?_⟩
         obtain ⟨a1, cs1, t1, he⟩ := ih1.2 rfl
         exact ⟨_, _, _, Aa _ _ _ _ _ _ (tw_lw root _ nu _ _ a1 _ _ cs1 _ t1 _ i r nv nl nr nu) (ob (A0 hr0 (A0 hr0 (A0 b3 (A0 ⟨rfl, hi⟩ (A0 hst (A0 hr0 (A0 he A2))))))))⟩
        | true =>
         have he1 := ih1.1 rfl
         simp only [if_true]
         have go : ∀ (z : Bool) (a2 : AV) (cs2 : List AV) (t2 : AC), Ev CCl Ab (.call 216 (twAw nr (i : Int) ns.length) (Bo root (A9 ns) (ouA (out ++ al ++ [(i : Int)])) (AK ns.length as1) (ouT (out ++ al ++ [(i : Int)])))) (.val (vb z) (Bo root (A9 ns) a2 cs2 t2)) →
          Ev CCl Ab (.call 216 (twAw (i : Int) nu ns.length) (Bo root (A9 ns) (ouA out) (AK ns.length seen) (ouT out))) (.val (vb z) (Bo root (A9 ns) a2 cs2 t2)) := fun z a2 cs2 t2 he2 => by
          generalize out ++ al = Lq at he1 he2 hol
          cases Lq with
          | nil => exact Aa _ _ _ _ _ _ (tw_rnw root _ nu _ _ a2 _ _ _ cs2 _ t2 _ i r z nv nl nr nu) (ob (A0 hr0 (A0 hr0 (A0 b3 (A0 ⟨rfl, hi⟩ (A0 hst (A0 hr0 (A0 he1 (A0 ⟨rfl, fits8 (by omega) (by omega)⟩ (A0 hr0 (A0 he2 A2)))))))))))
          | cons c l =>
           have ea : ouA (c :: l ++ [(i : Int)]) = .st 1 (([di c] :: A6 l) ++ [[di (i : Int)]]) (A1 216 74) (2 * (A6 l).length + 1 + 1 + 1) := by
            unfold ouA; rw [← (Bd 1 (A1 216 74) [di c] [di (i : Int)] (A6 l)).1]; simp [A6]
           have et : ouT (c :: l ++ [(i : Int)]) = [(A1 216 74, 2 * (A6 l).length + 1 + 1 + 1)] := by
            unfold ouT; rw [← (Bd 1 (A1 216 74) [di c] [di (i : Int)] (A6 l)).2]; simp [A6]
           rw [ea, et] at he2
           exact Aa _ _ _ _ _ _ (tw_rsw root _ nu _ ([di c] :: A6 l) (2 * (A6 l).length + 1) _ a2 _ _ _ cs2 _ t2 _ i r z nv nl nr nu) (ob (A0 hr0 (A0 hr0 (A0 b3 (A0 ⟨rfl, hi⟩ (A0 hst (A0 hr0 (A0 he1 (A0 ⟨rfl, rfl, fits8 (by simp [A6]; simp at hol; omega) (by omega)⟩ (A0 hr0 (A0 he2 A2)))))))))))
         refine ⟨fun h => ?_, fun h => ?_⟩
         ·have he2 := ih2.1 h
          have eq : out ++ (al ++ (i : Int) :: bl) = out ++ al ++ [(i : Int)] ++ bl := by simp
          rw [eq]
          exact go _ _ _ _ he2
         ·obtain ⟨a2, cs2, t2, he2⟩ := ih2.2 h
          exact ⟨a2, cs2, t2, go _ _ _ _ he2⟩
       ·have hg : gok ns (i : Int) up seen = none := by
         rw [hgo]
         have : (nu != up) = true := by simpa using hu
         simp [this]
        exact bad hg ⟨_, _, _, Aa _ _ _ _ _ _ (tw_upw root _ up _ _ _ _ _ i r nv nl nr nu) (ob (A0 hr0 (A0 hr0 (A0 (by simpa using hu) A2))))⟩
    ·have hg : gok ns (i : Int) up seen = none := by
      unfold gok
      rw [hna, List.getElem?_eq_none (by omega)]
     exact bad hg ⟨_, _, _, Aa _ _ _ _ _ _ (tw_bigw root _ up _ _ _ _ _) (A0 b0 (A0 b1 (A0 (decide_eq_true (by rw [Ay]; omega)) A2)))⟩
def toHdw (root : Int) (rows : A8) (a : AV) (cs : List AV) (t : AC) (n : Nat) (i : Int) : St := { σ := Ap 54 [(4, .ptr (A1 183 4) 0 0), (5, .hs (A1 183 21) 0 0 n 1), (35, .d (.mn 6 rows)), (36, vi rows.length), (37, vi i)], h := Bo root rows a cs t }
def toOutw (root : Int) (rows : A8) (a : AV) (cs : List AV) (t : AC) : St := { σ := Ap 54 [(4, .ptr (A1 183 4) 0 0)], h := Bo root rows a cs t }
def toRetw (root : Int) (rows : A8) (a : AV) (cs : List AV) (t : AC) : St := { σ := Ap 54 [(2, .d dnil), (3, vb false)], h := Bo root rows a cs t }
def toXw (root : Int) (rows : A8) (a : AV) (cs : List AV) (t : AC) (nd : List DV) : H := { objs := [(A1 182 1, 1, [tcellw root rows]), (A1 182 11, 1, [wcellw root rows]), (A1 183 4, 1, [.cells [a] false]), (A1 183 7, 1, [.cells (nd.map .d) false]), (A1 183 21, 1, [.cells cs false]), (A1 187 1, 1, [tcellw root rows])], toks := t }
theorem to_exitw (root i : Int) (rows : A8) (a : AV) (cs : List AV) (t : AC) (n : Nat) : sM CCl 183 0 (toHdw root rows a cs t n i) [(A1 183 38, .b false)] [4] = some ((.exit 0, toOutw root rows a cs t), [], [decide (i < (rows.length : Int)) = false]) := by kernel_rfl
def toSw (b r : Bool) (nv nl nr nu : Int) (m : Nat) (z : Bool) (l : Ah) : Ah := (A1 183 38, .b true) :: (A1 183 40, .row (BU b r nv nl nr nu)) :: (A1 183 44, .idx m) :: (A1 183 45, .ld (vb z)) :: l
def toOw (i : Int) (rows : A8) (cs : List AV) (n : Nat) (b r : Bool) (nv nl nr nu : Int) (m : Nat) (z : Bool) (l : List Prop) : List Prop := (decide (i < (rows.length : Int)) = true) :: (0 ≤ i ∧ rows[i.toNat]? = some (BU b r nv nl nr nu)) :: (i = m ∧ m < n) :: (AE C0 4 cs (0 + m * 1) = some (vb z)) :: l
def toNw (i' : Int) (X : X) (st : St) : Ah := [(A1 183 52, .int i'), (A1 183 8002, .drop [A1 183 7] [4, 5, 35, 36, 37]), (A1 183 8001, .loop [4, 5, 35, 36, 37] X st)]
def toKw (root i i' : Int) (rows : A8) (a : AV) (cs : List AV) (t : AC) (n : Nat) (nd : List DV) (X : X) (st : St) : List Prop := [IntKind.wrap .i64 (i + 1) = i', hNone [A1 183 7] (Bo root rows a cs t) = true, hFree [A1 183 7] (toXw root rows a cs t nd) = true, true = true, Ev CCl Ab (Lp 183 0 (toHdw root rows a cs t n i')) (.code X st)]
theorem to_metw (root i i' : Int) (rows : A8) (a : AV) (cs : List AV) (t : AC) (n m : Nat) (b r : Bool) (nv nl nr nu : Int) (X : X) (st : St) : AY CCl Ab 60 (Lp 183 0 (toHdw root rows a cs t n i)) (toSw b r nv nl nr nu m true (toNw i' X st)) =
  some (.code X st, [], toOw i rows cs n b r nv nl nr nu m true (toKw root i i' rows a cs t n (BU b r nv nl nr nu) X st)) := by kernel_rfl
theorem to_zerow (root i i' : Int) (rows : A8) (a : AV) (cs : List AV) (t : AC) (n m : Nat) (b r : Bool) (nv : Nat) (nl nr nu : Int) (X : X) (st : St) : AY CCl Ab 60 (Lp 183 0 (toHdw root rows a cs t n i)) (toSw b r nv nl nr nu m false ((A1 183 50, .eqv true) :: toNw i' X st)) =
  some (.code X st, [], toOw i rows cs n b r nv nl nr nu m false ((Ar Tryz.prog (Op.equal 117 (vNod ⟨b, r, nv, nl, nr, nu⟩) (vNod nodE)) = some true) :: toKw root i i' rows a cs t n (BU b r nv nl nr nu) X st)) := by kernel_rfl
theorem to_badw (root i : Int) (rows : A8) (a : AV) (cs : List AV) (t : AC) (n m : Nat) (b r : Bool) (nv : Nat) (nl nr nu : Int) : symD CCl Ab 60 183 false (BE Tryz.prog 183 0) (toHdw root rows a cs t n i) (toSw b r nv nl nr nu m false [(A1 183 50, .eqv false)]) [2, 3] [A1 183 7] =
  some ((.ret, toRetw root rows a cs t), [], toOw i rows cs n b r nv nl nr nu m false [Ar Tryz.prog (Op.equal 117 (vNod ⟨b, r, nv, nl, nr, nu⟩) (vNod nodE)) = some false, hNone [A1 183 7] (Bo root rows a cs t) = true, hFree [A1 183 7] (toXw root rows a cs t (BU b r nv nl nr nu)) = true, true = true]) := by kernel_rfl
theorem toX_freew (root : Int) (rows : A8) (out : List Int) (n : Nat) (seen : List Int) (t : AC) (nd : List DV) : hFree [A1 183 7] (toXw root rows (ouA out) (AK n seen) t nd) = true := by
 have h1 : BD [A1 183 7] (ouA out) = true := by cases out <;> rfl
 have h2 : AT [A1 183 7] (AK n seen) = true := metC_free _ _ _
 have h3 : BD [A1 183 7] (vi root) = true := rfl
 simp only [A1, Nat.reduceMul, Nat.reduceAdd] at h1 h2 h3
 simp [hFree, toXw, objFree, AT, h1, h2, h3, tcellw, wcellw, BD, A1]
def toResw (root : Int) (rows : A8) (a : AV) (cs : List AV) (t : AC) (ok : Bool) : X × St := if ok then (.exit 0, toOutw root rows a cs t) else (.ret, toRetw root rows a cs t)
theorem to_loopw (root : Int) (ns : List Nod) (out seen : List Int) (t : AC) (hn : ns.length ≤ 64) : ∀ (d i : Nat), i + d = ns.length →
  Ev CCl Ab (Lp 183 0 (toHdw root (A9 ns) (ouA out) (AK ns.length seen) t ns.length i)) (.code (toResw root (A9 ns) (ouA out) (AK ns.length seen) t (((List.range ns.length).drop i).all fun j : Nat => seen.contains (j : Int) || BP ns j)).1 (toResw root (A9 ns) (ouA out) (AK ns.length seen) t (((List.range ns.length).drop i).all fun j : Nat => seen.contains (j : Int) || BP ns j)).2)
 | 0, i, h => by
  have : (List.range ns.length).drop i = [] := List.drop_eq_nil_of_le (by simp; omega)
  rw [this]
  exact Ac (to_exitw _ _ _ _ _ _ _) (A0 (by rw [Ay]; exact dge (by omega)) A2)
 | d + 1, i, h => by
  have hi : i < ns.length := by omega
  have hd : (List.range ns.length).drop i = i :: (List.range ns.length).drop (i + 1) := by
   have := List.drop_eq_getElem_cons (l := List.range ns.length) (i := i) (by simpa using hi)
   simpa using this
  have ih := to_loopw root ns out seen t hn d (i + 1) (by omega)
  have hb : decide ((i : Int) < ((A9 ns).length : Int)) = true := by rw [Ay]; exact dlt hi
  have hr : 0 ≤ (i : Int) ∧ (A9 ns)[((i : Int)).toNat]? = some (ns[i]).cs := ⟨by omega, AS (List.getElem?_eq_getElem hi)⟩
  have hld : AE C0 4 (AK ns.length seen) (0 + i * 1) = some (vb (seen.contains (i : Int))) := by rw [ld1 agg4, metC_at hi]
  have hz : BP ns i = ns[i].zero := by simp only [BP, List.getElem?_eq_getElem hi]
  have hq := nod_zero ns[i]
  rw [hd, List.all_cons, hz]
  generalize ns[i] = n at hr hq ⊢
  obtain ⟨b, r, nv, nl, nr, nu⟩ := n
  cases hm : seen.contains (i : Int) with
  | true =>
   rw [hm] at hld
   rw [Bool.true_or, Bool.true_and]
   exact Aa _ _ _ _ _ _ (to_metw root i ((i + 1 : Nat) : Int) _ _ _ _ _ i b r nv nl nr nu _ _) (A0 hb (A0 hr (A0 ⟨rfl, hi⟩ (A0 hld (A0 (Ag (by omega)) (A0 rfl (A0 (toX_freew _ _ _ _ _ _ _) (A0 rfl (A0 ih A2)))))))))
  | false =>
   rw [hm] at hld
   rw [Bool.false_or]
   cases hc : Nod.zero ⟨b, r, nv, nl, nr, nu⟩ with
   | true =>
    rw [hc] at hq
    rw [Bool.true_and]
    exact Aa _ _ _ _ _ _ (to_zerow root i ((i + 1 : Nat) : Int) _ _ _ _ _ i b r nv nl nr nu _ _) (A0 hb (A0 hr (A0 ⟨rfl, hi⟩ (A0 hld (A0 hq (A0 (Ag (by omega)) (A0 rfl (A0 (toX_freew _ _ _ _ _ _ _) (A0 rfl (A0 ih A2))))))))))
   | false =>
    rw [hc] at hq
    rw [Bool.false_and]
    exact B4 (to_badw root i _ _ _ _ _ i b r nv nl nr nu) (A0 hb (A0 hr (A0 ⟨rfl, hi⟩ (A0 hld (A0 hq (A0 rfl (A0 (toX_freew _ _ _ _ _ _ _) (A0 rfl A2))))))))
noncomputable def toCw (root : Int) (rows : A8) (sc : Ah) : SM Res := AY CCl Ab 60 (.call 183 [.ptr (A1 182 11) 0 0] (tbHw root rows)) sc
theorem to_longw (root : Int) (rows : A8) : toCw root rows [(A1 183 14, .b true)] = some (.val (.tup [.d dnil, vb false]) (tbHw root rows), [], [decide ((rows.length : Int) > 64) = true]) := by kernel_rfl
def toIw (root : Int) (rows : A8) (n : Nat) (z : Bool) (a : AV) (cs : List AV) (t : AC) (l : List Prop) : List Prop := (decide ((rows.length : Int) > 64) = false) :: mkOb n rows.length :: (Ev CCl Ab (.call 216 (twAw root (-1) n) (Bo root rows (.d dnil) (mkN n) [])) (.val (vb z) (Bo root rows a cs t))) :: l
def toJw (root : Int) (rows : A8) (n : Nat) (z : Bool) (a : AV) (cs : List AV) (t : AC) (l : Ah) : Ah := (A1 183 14, .b false) :: (A1 183 21, .mks n) :: (A1 183 29, .call (vb z) (Bo root rows a cs t)) :: l
theorem to_now (root : Int) (rows : A8) (n : Nat) (a : AV) (cs : List AV) (t : AC) : toCw root rows (toJw root rows n false a cs t []) = some (.val (.tup [.d dnil, vb false]) (Bo root rows a cs t), [], toIw root rows n false a cs t []) := by kernel_rfl
theorem to_inw (root : Int) (rows : A8) (n : Nat) (a : AV) (cs : List AV) (t : AC) : toCw root rows (toJw root rows n true a cs t [(A1 183 8001, .loop [4, 5, 35, 36, 37] .ret (toRetw root rows a cs t))]) = some (.val (.tup [.d dnil, vb false]) (Bo root rows a cs t), [], toIw root rows n true a cs t [Ev CCl Ab (Lp 183 0 (toHdw root rows a cs t n 0)) (.code .ret (toRetw root rows a cs t))]) := by kernel_rfl
theorem to_okw (root : Int) (rows : A8) (n : Nat) (a : AV) (cs : List AV) (t : AC) : toCw root rows (toJw root rows n true a cs t [(A1 183 8001, .loop [4, 5, 35, 36, 37] (.exit 0) (toOutw root rows a cs t))]) = some (.val (.tup [a, vb true]) (Bo root rows a cs t), [], toIw root rows n true a cs t [Ev CCl Ab (Lp 183 0 (toHdw root rows a cs t n 0)) (.code (.exit 0) (toOutw root rows a cs t))]) := by kernel_rfl
theorem to_orderw (root : Int) (ns : List Nod) : match ordO root ns with
  | some l => ∃ cs, Ev CCl Ab (.call 183 [.ptr (A1 182 11) 0 0] (tbHw root (A9 ns))) (.val (.tup [ouA l, vb true]) (Bo root (A9 ns) (ouA l) cs (ouT l)))
  | none => ∃ h, Ev CCl Ab (.call 183 [.ptr (A1 182 11) 0 0] (tbHw root (A9 ns))) (.val (.tup [.d dnil, vb false]) h) := by
 unfold ordO
 by_cases h64 : 64 < ns.length
 ·rw [if_pos h64]
  exact ⟨_, Aa _ _ _ _ _ _ (to_longw root _) (A0 (decide_eq_true (by rw [Ay]; omega)) A2)⟩
 ·rw [if_neg h64]
  have b0 : decide (((A9 ns).length : Int) > 64) = false := decide_eq_false (by rw [Ay]; omega)
  have b1 : mkOb ns.length ((A9 ns).length : Nat) := by rw [Ay]; exact mkOb_ok (by omega)
  have hw := tw_walkw root ns (by omega) (ns.length + 1) root (-1) [] [] (gIn_nil ns) (by rw [Cx]; omega) (Nat.le_refl _)
  have em : AK ns.length [] = mkN ns.length := metC_nil _
  rw [em] at hw
  have eo : ouA [] = .d dnil := rfl
  have et : ouT [] = [] := rfl
  rw [eo, et] at hw
  have e : AZ ns (ns.length + 1) root (-1) [] = B3 ns root (-1) [] := rfl
  rw [e] at hw
  generalize B3 ns root (-1) [] = g at hw ⊢
  obtain ⟨l, s1, z⟩ := g
  simp only [List.nil_append] at hw ⊢
  cases z with
  | false =>
   obtain ⟨a, cs, t, he⟩ := hw.2 rfl
   simp only [Bool.false_and, Bool.false_eq_true, if_false]
   exact ⟨_, Aa _ _ _ _ _ _ (to_now root _ _ a cs t) (A0 b0 (A0 b1 (A0 he A2)))⟩
  | true =>
   have he := hw.1 rfl
   have hk := to_loopw root ns l s1 (ouT l) (by omega) ns.length 0 (by omega)
   rw [List.drop_zero] at hk
   simp only [Bool.true_and]
   cases hc : ((List.range ns.length).all fun j : Nat => s1.contains (j : Int) || BP ns j) with
   | false =>
    rw [hc] at hk
    simp only [Bool.false_eq_true, if_false]
    exact ⟨_, Aa _ _ _ _ _ _ (to_inw root _ _ _ _ _) (A0 b0 (A0 b1 (A0 he (A0 hk A2))))⟩
   | true =>
    rw [hc] at hk
    simp only [if_true]
    exact ⟨_, Aa _ _ _ _ _ _ (to_okw root _ _ _ _ _) (A0 b0 (A0 b1 (A0 he (A0 hk A2))))⟩
def cmpI (a b : Int) : Int := if a < b then -1 else if b < a then 1 else 0
def cmpS : Spec
 | [.one (.v (.int .i64 a)), .one (.v (.int .i64 b))] => some [A5 (cmpI a b)]
 | _ => none
theorem cc_1 (a b : Int) : sV C0 233 [A5 a, A5 b] [(A1 239 5, .b false), (A1 239 5, .b false), (A1 233 16, .b true)] = some ([A5 (-1)], [], [(a != a) = false, (b != b) = false, decide (a < b) = true]) := by kernel_rfl
theorem cc_2 (a b : Int) : sV C0 233 [A5 a, A5 b] [(A1 239 5, .b false), (A1 239 5, .b false), (A1 233 16, .b false), (A1 233 19, .b true)] = some ([A5 1], [], [(a != a) = false, (b != b) = false, decide (a < b) = false, decide (a > b) = true]) := by kernel_rfl
theorem cc_3 (a b : Int) : sV C0 233 [A5 a, A5 b] [(A1 239 5, .b false), (A1 239 5, .b false), (A1 233 16, .b false), (A1 233 19, .b false)] = some ([A5 0], [], [(a != a) = false, (b != b) = false, decide (a < b) = false, decide (a > b) = false]) := by kernel_rfl
theorem cmp_sat : AJ C0 233 cmpS := Af (O := Ab) BN (fun _ _ h => h.elim) Bm fun ps rs hs => by
 unfold cmpS at hs
 split at hs
 ·rename_i a b
  cases hs
  have n1 : (a != a) = false := by simp
  have n2 : (b != b) = false := by simp
  unfold cmpI
  by_cases h1 : a < b
  ·rw [if_pos h1]
   exact A4 (cc_1 a b) (A0 n1 (A0 n2 (A0 (decide_eq_true h1) A2)))
  ·rw [if_neg h1]
   by_cases h2 : b < a
   ·rw [if_pos h2]
    exact A4 (cc_2 a b) (A0 n1 (A0 n2 (A0 (decide_eq_false h1) (A0 (decide_eq_true h2) A2))))
   ·rw [if_neg h2]
    exact A4 (cc_3 a b) (A0 n1 (A0 n2 (A0 (decide_eq_false h1) (A0 (decide_eq_false h2) A2))))
 ·cases hs
def orI (a b : Int) : Int := if a = 0 then b else a
def orS2 : Spec
 | [.one (.sl 1 _ [[.v (.int .i64 a)], [.v (.int .i64 b)]])] => some [A5 (orI a b)]
 | _ => none
theorem co_1 (f : Bool) (a b : Int) : sV C0 232 [.one (.sl 1 f [[di a], [di b]])] [(A1 232 14, .b true)] = some ([A5 a], [], [(a != 0) = true]) := by kernel_rfl
theorem co_2 (f : Bool) (a b : Int) : sV C0 232 [.one (.sl 1 f [[di a], [di b]])] [(A1 232 14, .b false), (A1 232 14, .b true)] = some ([A5 b], [], [(a != 0) = false, (b != 0) = true]) := by kernel_rfl
theorem co_3 (f : Bool) (a b : Int) : sV C0 232 [.one (.sl 1 f [[di a], [di b]])] [(A1 232 14, .b false), (A1 232 14, .b false)] = some ([A5 0], [], [(a != 0) = false, (b != 0) = false]) := by kernel_rfl
theorem or_sat : AJ C0 232 orS2 := Af (O := Ab) BN (fun _ _ h => h.elim) Bm fun ps rs hs => by
 unfold orS2 at hs
 split at hs
 ·rename_i f a b
  cases hs
  unfold orI
  by_cases h1 : a = 0
  ·rw [if_pos h1]
   have n1 : (a != 0) = false := by simp [h1]
   by_cases h2 : b = 0
   ·subst h2
    exact A4 (co_3 f a 0) (A0 n1 (A0 rfl A2))
   ·exact A4 (co_2 f a b) (A0 n1 (A0 (by simpa using h2) A2))
  ·rw [if_neg h1]
   exact A4 (co_1 f a b) (A0 (by simpa using h1) A2)
 ·cases hs
theorem tl_1 (v m : Int) : sV C0 135 [pu v, pu m] [] = some ([A5 (BW v m)], [], []) := by kernel_rfl
theorem lagP_sat : AJ C0 135 lagS := Af (O := Ab) BN (fun _ _ h => h.elim) Bm fun ps rs hs => by
 unfold lagS at hs
 split at hs
 ·rename_i v m
  cases hs
  exact A4 (tl_1 v m) A2
 ·cases hs
def cmpK (m : Int) (a b : Ky) : Int := orI (cmpI (BW a.1 m) (BW b.1 m)) (cmpI a.2 b.2)
theorem cmpK_less (m : Nat) (a b : Ky) : decide (cmpK m a b < 0) = BB m a b := by
 unfold cmpK orI cmpI BB
 by_cases h1 : BW a.1 m < BW b.1 m
 ·simp [h1]
 ·by_cases h2 : BW b.1 m < BW a.1 m
  ·have : ¬ BW a.1 m = BW b.1 m := by omega
   simp [h1, h2, this]
  ·have : BW a.1 m = BW b.1 m := by omega
   by_cases h3 : a.2 < b.2
   ·simp [this, h3]
   ·by_cases h4 : b.2 < a.2 <;> simp [this, h3, h4]
noncomputable def CCm : Ctx := Ad (Ad (Ad C0 233 cmpS) 232 orS2) 135 lagS
theorem hPCm : Aw CCm := A7 (A7 (A7 BN (cmp_sat.ctx rfl rfl) (by kernel_rfl)) (or_sat.ctx rfl rfl) (by kernel_rfl)) (lagP_sat.ctx rfl rfl) (by kernel_rfl)
theorem kc_1 (m v i w j p q c d r : Int) : sV CCm 221 (leA m v i w j) [(A1 221 10, .prim [A5 p]), (A1 221 14, .prim [A5 q]), (A1 221 15, .prim [A5 c]), (A1 221 20, .prim [A5 d]), (A1 221 22, .prim [A5 r])] =
  some ([A5 r], [], [lagS [pu v, pu m] = some [A5 p], lagS [pu w, pu m] = some [A5 q], cmpS [A5 p, A5 q] = some [A5 c], cmpS [A5 i, A5 j] = some [A5 d], orS2 [.one (.sl 1 true [[di c], [di d]])] = some [A5 r]]) := by kernel_rfl
def cmpKV (m : Int) : Option Ky → Option Ky → Option (List PV)
 | some x, some y => some [A5 (cmpK m x y)]
 | _, _ => none
def cmpKS : Spec
 | [.one (.v (.int .u64 m)), .agg a, .agg b] => cmpKV m (kyR a) (kyR b)
 | _ => none
theorem compare_sat : AJ C0 221 cmpKS := AJ.ctx (C := CCm) rfl rfl (Af (O := Ab) hPCm (fun _ _ h => h.elim) Bm fun ps rs hs => by
 unfold cmpKS at hs
 split at hs
 ·rename_i m a b
  unfold cmpKV at hs
  split at hs
  ·rename_i x y h1 h2
   cases hs
   have ea := kyR_eq h1; have eb := kyR_eq h2
   subst ea; subst eb
   obtain ⟨v, i⟩ := x; obtain ⟨w, j⟩ := y
   exact A4 (kc_1 m v i w j _ _ _ _ _) (A0 rfl (A0 rfl (A0 rfl (A0 rfl (A0 rfl A2)))))
  ·cases hs
 ·cases hs)
theorem cmpKS_at {m : Int} {x y : Ky} (hx : x.1 < 2 ^ 64) (hy : y.1 < 2 ^ 64) : cmpKS [pu m, .agg (kD x), .agg (kD y)] = some [A5 (cmpK m x y)] := by
 show cmpKV m (kyR (kD x)) (kyR (kD y)) = _
 rw [kyR_kD hx, kyR_kD hy]; rfl
noncomputable def CKL : Ctx := Ad C0 221 cmpKS
theorem hPKL : Aw CKL := A7 BN (compare_sat.ctx rfl rfl) (by kernel_rfl)
theorem kl_1 (m v i w j r : Int) (z : Bool) : sV CKL 217 (leA m v i w j) [(A1 217 10, .prim [A5 r]), (A1 217 11, .b z)] = some ([A3 z], [], [cmpKS [pu m, .agg [du v, di i], .agg [du w, di j]] = some [A5 r], decide (r < 0) = z]) := by kernel_rfl
theorem lessP_sat : AJ C0 217 lessS := AJ.ctx (C := CKL) rfl rfl (Af (O := Ab) hPKL (fun _ _ h => h.elim) Bm fun ps rs hs => by
 unfold lessS at hs
 split at hs
 ·rename_i m a b
  unfold lessV at hs
  split at hs
  ·rename_i x y h1 h2
   split at hs
   ·rename_i hc
    obtain ⟨mn, rfl⟩ := Int.eq_ofNat_of_zero_le hc.1
    simp only [Option.some.injEq, Int.toNat_natCast] at hs
    subst hs
    have ea := kyR_eq h1; have eb := kyR_eq h2
    subst ea; subst eb
    have hc : cmpKS [pu (mn : Int), .agg (kD x), .agg (kD y)] = some [A5 (cmpK mn x y)] := by
     show cmpKV mn (kyR (kD x)) (kyR (kD y)) = _
     rw [h1, h2]; rfl
    rw [← cmpK_less]
    exact A4 (kl_1 mn x.1 x.2 y.1 y.2 _ _) (A0 hc (A0 rfl A2))
   ·cases hs
  ·cases hs
 ·cases hs)
def vId (n : Int) : Value := .agg #[.int .i64 n]
theorem id_fields : fieldsOf Tryz.prog 290 = [(3, 0)] := by kernel_rfl
theorem id_p0 (n : Int) : Ar Tryz.prog (part 3 #[.int .i64 n] 0) = some (.int .i64 n) := by kernel_rfl
theorem id_eq (a b : Int) : Ar Tryz.prog (Op.equal 290 (vId a) (vId b)) = some (a == b) := by
 show Ar Tryz.prog (Op.equalIn (9998 + 1 + 1) 290 (vId a) (vId b)) = _
 unfold vId
 rw [eq_struct' (by rw [id_fields]; rfl), id_fields]
 simp only [eqParts, id_p0, eq_intK und3]
 cases (a == b) <;> rfl
theorem check290 (b : Bool) (c : Int) : Ar Tryz.prog (Instr.checkKey b 10000 290 (vId c)) = some () := by kernel_rfl
theorem und288 : Tryz.prog.underlying 288 = some (.map 290 4) := by kernel_rfl
theorem zero4' {C : Ctx} (hC : C.P = Tryz.prog) : BL C 4 = some (.bool false) := by unfold BL; rw [hC]; kernel_rfl
def ixI (c : Int) (i : Nat) : List Int → Option Nat
 | [] => none
 | x :: r => if c == x then some i else ixI c (i + 1) r
theorem isStruct290 : (match Tryz.prog.underlying 290 with | some (.struct _) => true | _ => false) = true := by kernel_rfl
theorem und290 : ∃ fs, Tryz.prog.underlying 290 = some (.struct fs) := by
 have h := isStruct290
 split at h
 ·rename_i fs e; exact ⟨fs, e⟩
 ·cases h
theorem findAsk290 (c : Int) : ∀ (ks : List Int) (l : List MapEntry) (i : Nat), l.map (·.key) = ks.map vId → (∀ m ∈ l, m.val = undef) →
  Ar Tryz.prog (Instr.findAsking 290 (vId c) l i) = some (match ixI c i ks with | some j => some (j, undef) | none => none)
 | [], l, i, h, _ => by
  have : l = [] := by simpa using h
  subst this; rfl
 | k :: ks, [], i, h, _ => by simp at h
 | k :: ks, m :: l, i, h, hv => by
  simp only [List.map_cons, List.cons.injEq] at h
  unfold Instr.findAsking
  rw [h.1]
  simp only [still_bind', id_eq, Option.bind_some]
  unfold ixI
  cases e : (c == k) with
  | true => simp [BJ, hv m (by simp)]
  | false =>
   simp
   exact findAsk290 c ks l (i + 1) h.2 (fun x hx => hv x (by simp [hx]))
theorem findKey290 (c : Int) (ks : List Int) (l : List MapEntry) (h : l.map (·.key) = ks.map vId) (hv : ∀ m ∈ l, m.val = undef) :
  Ar Tryz.prog (Instr.findKey 290 (vId c) l) = some (match ixI c 0 ks with | some j => some (j, undef) | none => none) := by
 obtain ⟨fs, hu⟩ := und290
 unfold Instr.findKey
 simp only [still_bind', still_und hu, Option.bind_some]
 cases ks with
 | nil =>
  have : l = [] := by simpa using h
  subst this; rfl
 | cons k ks =>
  cases l with
  | nil => simp at h
  | cons m l =>
   have hk : m.key = vId k := by simpa using (List.cons.inj h).1
   have hn : Instr.findNow (.struct fs) (vId c) (m :: l) 0 = none := by
    unfold Instr.findNow
    rw [hk]
    rfl
   rw [hn]
   exact findAsk290 c (k :: ks) (m :: l) 0 h hv
theorem ixI_lt {c : Int} : ∀ {ks : List Int} {i j : Nat}, ixI c i ks = some j → i ≤ j ∧ ks[j - i]? = some c
 | [], i, j, h => by simp [ixI] at h
 | k :: ks, i, j, h => by
  unfold ixI at h
  split at h
  ·rename_i e
   have e : c = k := by simpa using e
   simp at h; subst h; subst e
   simp
  ·obtain ⟨h1, h3⟩ := ixI_lt h
   refine ⟨by omega, ?_⟩
   rw [show j - i = (j - (i + 1)) + 1 by omega]
   simpa using h3
theorem ixI_isSome (c : Int) : ∀ (l : List Int) (i : Nat), (ixI c i l).isSome = l.contains c
 | [], i => rfl
 | x :: r, i => by
  simp only [ixI]
  cases e : (c == x) with
  | true =>
   have e' : c = x := by simpa using e
   subst e'; simp
  | false =>
   have e' : ¬ c = x := by simpa using e
   simp [e', ixI_isSome c r]
theorem keyAt290 {C : Ctx} (hC : C.P = Tryz.prog) (c : Int) (ks : List Int) (es : List (Value × Bool × List DV)) (h : es.map (·.1) = ks.map vId) :
  keyAt C 290 (vId c) es = match ixI c 0 ks with
   | some i => match es[i]? with | some e => some (some (i, e.2)) | none => none
   | none => some none := by
 unfold keyAt
 rw [hC, findKey290 c ks _ (by simpa [Function.comp_def] using h) (by simp only [List.mem_map, forall_exists_index, and_imp]; rintro m x - rfl; rfl)]
 cases ixI c 0 ks <;> rfl
def idE (n : Int) : Value × Bool × List DV := (vId n, false, [db true])
theorem idE_keys (l : List Int) : (l.map idE).map (·.1) = l.map vId := by simp [Function.comp_def, idE]
def aggI (n : Int) : AV := .agg [vi n]
theorem look288 {C : Ctx} (hC : C.P = Tryz.prog) (c : Int) (m : List Int) : Bv C 288 (m.map idE) (aggI c) false = some (vb (m.contains c)) := by
 unfold Bv
 have e0 : toV (aggI c) = some (vId c) := rfl
 rw [hC, und288, e0]
 simp only [check290, keyAt290 hC c m _ (idE_keys m), zero4' hC]
 rw [← ixI_isSome c m 0]
 cases e : ixI c 0 m with
 | none => rfl
 | some j =>
  obtain ⟨_, h3⟩ := ixI_lt e
  simp only [List.getElem?_map]
  rw [show m[j]? = some c by simpa using h3]
  rfl
theorem upd288 {C : Ctx} (hC : C.P = Tryz.prog) (c : Int) (m : List Int) (hn : m.contains c = false) : updEs C 288 (m.map idE) (aggI c) (vb true) = some ((m ++ [c]).map idE) := by
 unfold updEs
 have e0 : toV (aggI c) = some (vId c) := rfl
 rw [hC, und288, e0]
 have e3 : Ae cellD (AX (vb true)) = some [db true] := rfl
 simp only [e3, check290, keyAt290 hC c m _ (idE_keys m)]
 rw [← ixI_isSome c m 0] at hn
 cases e : ixI c 0 m with
 | none => simp [idE, isAggA, vb]
 | some j => rw [e] at hn; cases hn
noncomputable def CKS : Ctx := Ad C0 217 lessS
theorem hPKS : Aw CKS := A7 BN (lessP_sat.ctx rfl rfl) (by kernel_rfl)
def kpH (es : List (Value × Bool × List DV)) : H := { objs := [(A1 186 8, 1, [.map es false])] }
def kpHd (m : Int) (rows : A8) (es : List (Value × Bool × List DV)) (i : Int) : St := { σ := Ap 41 [(0, .d (.v (.int .u64 m))), (1, .d (.mn 2 rows)), (5, .mp (A1 186 8) 0), (9, .d (.mn 2 rows)), (10, vi rows.length), (11, vi i)], h := kpH es }
def kpOut (es : List (Value × Bool × List DV)) : St := { σ := Ap 41 [], h := kpH es }
def kpRet (es : List (Value × Bool × List DV)) : St := { σ := Ap 41 [(4, vb false)], h := kpH es }
theorem kp_exit (m i : Int) (rows : A8) (es : List (Value × Bool × List DV)) : sM CKS 186 0 (kpHd m rows es i) [(A1 186 12, .b false)] [] = some ((.exit 0, kpOut es), [], [decide (i < (rows.length : Int)) = false]) := by kernel_rfl
def kpN (i' : Int) (es' : List (Value × Bool × List DV)) (X : X) (st : St) : Ah := [(A1 186 8000, .upd es'), (A1 186 40, .int i'), (A1 186 8002, .drop [A1 186 7] [0, 1, 5, 9, 10, 11]), (A1 186 8001, .loop [0, 1, 5, 9, 10, 11] X st)]
def kpK (m : Int) (rows : A8) (es es' : List (Value × Bool × List DV)) (i i' y : Int) (X : X) (st : St) : List Prop := [updEs CKS 288 es (aggI y) (vb true) = some es', IntKind.wrap .i64 (i + 1) = i', true = true, true = true, true = true, Ev CKS Ab (Lp 186 0 (kpHd m rows es' i')) (.code X st)]
theorem kp_0 (m i i' w y : Int) (rows : A8) (es es' : List (Value × Bool × List DV)) (X : X) (st : St) : AY CKS Ab 60 (Lp 186 0 (kpHd m rows es i)) ([(A1 186 12, .b true), (A1 186 14, .row [du w, di y]), (A1 186 17, .b false), (A1 186 34, .look (vb false))] ++ kpN i' es' X st) =
  some (.code X st, [], [decide (i < (rows.length : Int)) = true, 0 ≤ i ∧ rows[i.toNat]? = some [du w, di y], decide (i > 0) = false, Bv CKS 288 es (aggI y) false = some (vb false)] ++ kpK m rows es es' i i' y X st) := by kernel_rfl
theorem kp_0m (m i w y : Int) (rows : A8) (es : List (Value × Bool × List DV)) : symD CKS Ab 60 186 false (BE Tryz.prog 186 0) (kpHd m rows es i) [(A1 186 12, .b true), (A1 186 14, .row [du w, di y]), (A1 186 17, .b false), (A1 186 34, .look (vb true))] [4] [A1 186 7] =
  some ((.ret, kpRet es), [], [decide (i < (rows.length : Int)) = true, 0 ≤ i ∧ rows[i.toNat]? = some [du w, di y], decide (i > 0) = false, Bv CKS 288 es (aggI y) false = some (vb true), true = true, true = true, true = true]) := by kernel_rfl
def kpS (p v x w y : Int) (z : Bool) (l : Ah) : Ah := (A1 186 12, .b true) :: (A1 186 14, .row [du w, di y]) :: (A1 186 17, .b true) :: (A1 186 22, .int p) :: (A1 186 23, .row [du v, di x]) :: (A1 186 26, .prim [A3 z]) :: l
def kpO (m i p v x w y : Int) (rows : A8) (z : Bool) (l : List Prop) : List Prop := (decide (i < (rows.length : Int)) = true) :: (0 ≤ i ∧ rows[i.toNat]? = some [du w, di y]) :: (decide (i > 0) = true) :: (IntKind.wrap .i64 (i - 1) = p) :: (0 ≤ p ∧ rows[p.toNat]? = some [du v, di x]) :: (lessS [pu m, .agg [du v, di x], .agg [du w, di y]] = some [A3 z]) :: l
theorem kp_l (m i p v x w y : Int) (rows : A8) (es : List (Value × Bool × List DV)) : symD CKS Ab 60 186 false (BE Tryz.prog 186 0) (kpHd m rows es i) (kpS p v x w y false []) [4] [A1 186 7] =
  some ((.ret, kpRet es), [], kpO m i p v x w y rows false [true = true, true = true, true = true]) := by kernel_rfl
theorem kp_m (m i p v x w y : Int) (rows : A8) (es : List (Value × Bool × List DV)) : symD CKS Ab 60 186 false (BE Tryz.prog 186 0) (kpHd m rows es i) (kpS p v x w y true [(A1 186 34, .look (vb true))]) [4] [A1 186 7] =
  some ((.ret, kpRet es), [], kpO m i p v x w y rows true [Bv CKS 288 es (aggI y) false = some (vb true), true = true, true = true, true = true]) := by kernel_rfl
theorem kp_s (m i i' p v x w y : Int) (rows : A8) (es es' : List (Value × Bool × List DV)) (X : X) (st : St) : AY CKS Ab 60 (Lp 186 0 (kpHd m rows es i)) (kpS p v x w y true ((A1 186 34, .look (vb false)) :: kpN i' es' X st)) =
  some (.code X st, [], kpO m i p v x w y rows true ((Bv CKS 288 es (aggI y) false = some (vb false)) :: kpK m rows es es' i i' y X st)) := by kernel_rfl
def idsTo (l : List Ky) (i : Nat) : List Int := (List.range i).map fun k => (kAt l k).2
theorem idsTo_snoc (l : List Ky) (i : Nat) : idsTo l (i + 1) = idsTo l i ++ [(kAt l i).2] := by simp [idsTo, List.range_succ]
theorem okP_eq (m : Nat) (l : List Ky) (i : Nat) : okP m l i = ((decide (i = 0) || BB m (kAt l (i - 1)) (kAt l i)) && !(idsTo l i).contains (kAt l i).2) := by
 unfold okP
 congr 1
 rw [Bool.eq_iff_iff]
 simp only [idsTo, List.all_eq_true, List.mem_range, Bool.not_eq_true', List.contains_eq_mem, decide_eq_false_iff_not, List.mem_map, not_exists, not_and, bne_iff_ne, ne_eq]
def kpRes (es : List (Value × Bool × List DV)) (ok : Bool) : X × St := if ok then (.exit 0, kpOut es) else (.ret, kpRet es)
theorem wrap_pred {i : Nat} (h : i < 2 ^ 62) (h0 : 0 < i) : IntKind.wrap .i64 ((i : Int) - 1) = ((i - 1 : Nat) : Int) := by
 rw [Ch (by omega) (by omega)]; omega
theorem kp_loop (m : Nat) (hm : m < 2 ^ 64) (l : List Ky) (hl : l.length < 2 ^ 30) (hv : ∀ k ∈ l, k.1 < 2 ^ 64) : ∀ (d i : Nat), i + d = l.length →
  ∃ es, Ev CKS Ab (Lp 186 0 (kpHd m (Ai l) ((idsTo l i).map idE) i)) (.code (kpRes es (((List.range l.length).drop i).all (okP m l))).1 (kpRes es (((List.range l.length).drop i).all (okP m l))).2)
 | 0, i, h => by
  have : (List.range l.length).drop i = [] := List.drop_eq_nil_of_le (by simp; omega)
  rw [this]
  exact ⟨_, Ac (kp_exit _ _ _ _) (A0 (by rw [AU]; exact dge (by omega)) A2)⟩
 | d + 1, i, h => by
  have hi : i < l.length := by omega
  have hd : (List.range l.length).drop i = i :: (List.range l.length).drop (i + 1) := by
   have := List.drop_eq_getElem_cons (l := List.range l.length) (i := i) (by simpa using hi)
   simpa using this
  obtain ⟨es2, ih⟩ := kp_loop m hm l hl hv d (i + 1) (by omega)
  have hb : decide ((i : Int) < ((Ai l).length : Int)) = true := by rw [AU]; exact dlt hi
  have h2 : 0 ≤ (i : Int) ∧ (Ai l)[((i : Int)).toNat]? = some (kD (kAt l i)) := ⟨by omega, krows_at hi⟩
  have hlk := look288 (C := CKS) rfl (kAt l i).2 (idsTo l i)
  rw [hd, List.all_cons, okP_eq]
  rw [idsTo_snoc] at ih
  by_cases h0 : i = 0
  ·have g0 : decide ((i : Int) > 0) = false := decide_eq_false (by omega)
   rw [decide_eq_true h0, Bool.true_or, Bool.true_and]
   cases hc : (idsTo l i).contains (kAt l i).2 with
   | true =>
    rw [hc] at hlk
    exact ⟨_, B4 (kp_0m m i _ _ _ _) (A0 hb (A0 h2 (A0 g0 (A0 hlk (A0 rfl (A0 rfl (A0 rfl A2)))))))⟩
   | false =>
    rw [hc] at hlk
    have hu := upd288 (C := CKS) rfl _ _ hc
    exact ⟨es2, Aa _ _ _ _ _ _ (kp_0 m i ((i + 1 : Nat) : Int) _ _ _ _ _ _ _) (A0 hb (A0 h2 (A0 g0 (A0 hlk (A0 hu (A0 (Ag (by omega)) (A0 rfl (A0 rfl (A0 rfl (A0 ih A2))))))))))⟩
  ·have g0 : decide ((i : Int) > 0) = true := decide_eq_true (by omega)
   have h1 : 0 ≤ ((i - 1 : Nat) : Int) ∧ (Ai l)[(((i - 1 : Nat) : Int)).toNat]? = some (kD (kAt l (i - 1))) := ⟨by omega, krows_at (by omega)⟩
   have hs := lessS_at hm (kAt_lt hv (i - 1)) (kAt_lt hv i)
   rw [decide_eq_false h0, Bool.false_or]
   have ob : ∀ {z : Bool} {lp : List Prop}, BB m (kAt l (i - 1)) (kAt l i) = z → AI lp → AI (kpO m i ((i - 1 : Nat) : Int) (kAt l (i - 1)).1 (kAt l (i - 1)).2 (kAt l i).1 (kAt l i).2 (Ai l) z lp) := fun hz hL =>
    A0 hb (A0 h2 (A0 g0 (A0 (wrap_pred (by omega) (by omega)) (A0 h1 (A0 (by rw [← hz]; exact hs) hL)))))
   cases c1 : BB m (kAt l (i - 1)) (kAt l i) with
   | false => exact ⟨_, B4 (kp_l m i _ _ _ _ _ _ _) (ob c1 (A0 rfl (A0 rfl (A0 rfl A2))))⟩
   | true =>
    rw [Bool.true_and]
    cases hc : (idsTo l i).contains (kAt l i).2 with
    | true =>
     rw [hc] at hlk
     exact ⟨_, B4 (kp_m m i _ _ _ _ _ _ _) (ob c1 (A0 hlk (A0 rfl (A0 rfl (A0 rfl A2)))))⟩
    | false =>
     rw [hc] at hlk
     have hu := upd288 (C := CKS) rfl _ _ hc
     exact ⟨es2, Aa _ _ _ _ _ _ (kp_s m i ((i + 1 : Nat) : Int) _ _ _ _ _ _ _ _ _ _) (ob c1 (A0 hlk (A0 hu (A0 (Ag (by omega)) (A0 rfl (A0 rfl (A0 rfl (A0 ih A2))))))))⟩
theorem kp_t (m : Int) (rows : A8) (es : List (Value × Bool × List DV)) : sV CKS 186 [pu m, .one (.mn 2 rows)] [(A1 186 8001, .loop [0, 1, 5, 9, 10, 11] (.exit 0) (kpOut es))] = some ([A3 true], [], [Ev CKS Ab (Lp 186 0 (kpHd m rows [] 0)) (.code (.exit 0) (kpOut es))]) := by kernel_rfl
theorem kp_f (m : Int) (rows : A8) (es : List (Value × Bool × List DV)) : sV CKS 186 [pu m, .one (.mn 2 rows)] [(A1 186 8001, .loop [0, 1, 5, 9, 10, 11] .ret (kpRet es))] = some ([A3 false], [], [Ev CKS Ab (Lp 186 0 (kpHd m rows [] 0)) (.code .ret (kpRet es))]) := by kernel_rfl
theorem sortedP_sat : AJ C0 186 sortS := AJ.ctx (C := CKS) rfl rfl (Af (O := Ab) hPKS (fun _ _ h => h.elim) Bm fun ps rs hs => by
 unfold sortS at hs
 split at hs
 ·rename_i m rows
  split at hs
  ·rename_i l hl
   split at hs
   ·rename_i hc
    obtain ⟨mn, rfl⟩ := Int.eq_ofNat_of_zero_le hc.1
    have hm : mn < 2 ^ 64 := by have := hc.2.1; exact_mod_cast this
    simp only [Option.some.injEq, Int.toNat_natCast] at hs
    subst hs
    have hv := kyR_lt hl
    obtain rfl := krows_of hl
    obtain ⟨es, hk⟩ := kp_loop mn hm l hc.2.2 hv l.length 0 (by omega)
    rw [List.drop_zero] at hk
    have e : (List.range l.length).all (okP mn l) = sortedK mn l := rfl
    rw [e] at hk
    cases c : sortedK mn l with
    | true => rw [c] at hk; exact A4 (kp_t mn _ es) (A0 hk A2)
    | false => rw [c] at hk; exact A4 (kp_f mn _ es) (A0 hk A2)
   ·cases hs
  ·cases hs
 ·cases hs)
def wpT (g1 : Nat) : A8 → AC
 | [] => [(A1 216 74, g1)]
 | r :: l => [(A1 187 30, 2 * l.length + 1), (A1 216 74, g1)]
def wpHd (root : Int) (rows ls : A8) (g1 : Nat) (cs : List AV) (a : AV) (t : AC) (i : Int) : St := { σ := Ap 33 [(1, .ptr (A1 187 1) 0 0), (5, a), (14, .st 1 ls (A1 216 74) g1), (15, vi ls.length), (16, vi i)], h := Bo root rows (.st 1 ls (A1 216 74) g1) cs t }
def wpOut (root : Int) (rows ls : A8) (g1 : Nat) (cs : List AV) (a : AV) (t : AC) : St := { σ := Ap 33 [(5, a)], h := Bo root rows (.st 1 ls (A1 216 74) g1) cs t }
theorem wp_exit (root i : Int) (rows ls : A8) (g1 : Nat) (cs : List AV) (a : AV) (t : AC) : sM CCl 187 0 (wpHd root rows ls g1 cs a t i) [(A1 187 17, .b false)] [5] = some ((.exit 0, wpOut root rows ls g1 cs a t), [], [decide (i < (ls.length : Int)) = false]) := by kernel_rfl
def wpS (x : Int) (b r : Bool) (nv nl nr nu i' : Int) (X : X) (st : St) : Ah := [(A1 187 17, .b true), (A1 187 18, .row [di x]), (A1 187 24, .row (BU b r nv nl nr nu)), (A1 187 30, .app false), (A1 187 31, .int i'), (A1 187 8001, .loop [1, 5, 14, 15, 16] X st)]
theorem wp_n (root i x i' : Int) (rows ls : A8) (g1 : Nat) (cs : List AV) (b r : Bool) (nv nl nr nu : Int) (X : X) (st : St) : AY CCl Ab 60 (Lp 187 0 (wpHd root rows ls g1 cs (.d dnil) [(A1 216 74, g1)] i)) (wpS x b r nv nl nr nu i' X st) =
  some (.code X st, [], [decide (i < (ls.length : Int)) = true, 0 ≤ i ∧ ls[i.toNat]? = some [di x], 0 ≤ x ∧ rows[x.toNat]? = some (BU b r nv nl nr nu), false = false ∧ Am 0 1 16, IntKind.wrap .i64 (i + 1) = i', Ev CCl Ab (Lp 187 0 (wpHd root rows ls g1 cs (.st 2 [[du nv, di x]] (A1 187 30) 1) [(A1 187 30, 1), (A1 216 74, g1)] i')) (.code X st)]) := by kernel_rfl
theorem wp_s (root i x i' : Int) (rows ls out : A8) (g1 g : Nat) (cs : List AV) (b r : Bool) (nv nl nr nu : Int) (X : X) (st : St) : AY CCl Ab 60 (Lp 187 0 (wpHd root rows ls g1 cs (.st 2 out (A1 187 30) g) [(A1 187 30, g), (A1 216 74, g1)] i)) (wpS x b r nv nl nr nu i' X st) =
  some (.code X st, [], [decide (i < (ls.length : Int)) = true, 0 ≤ i ∧ ls[i.toNat]? = some [di x], 0 ≤ x ∧ rows[x.toNat]? = some (BU b r nv nl nr nu), false = false ∧ (g = g ∧ Am out.length 1 16), IntKind.wrap .i64 (i + 1) = i', Ev CCl Ab (Lp 187 0 (wpHd root rows ls g1 cs (.st 2 (out ++ [[du nv, di x]]) (A1 187 30) (g + 1 + 1)) [(A1 187 30, g + 1 + 1), (A1 216 74, g1)] i')) (.code X st)]) := by kernel_rfl
theorem wpT_sn (g1 : Nat) (r x : List DV) (l : A8) : wpT g1 ((r :: l) ++ [x]) = [(A1 187 30, 2 * l.length + 1 + 1 + 1), (A1 216 74, g1)] := by
 simp only [List.cons_append, wpT, List.length_append, List.length_cons, List.length_nil]
 congr 1
theorem wp_loop (root : Int) (ns : List Nod) (ls : List Int) (g1 : Nat) (cs : List AV) (hn : ns.length ≤ 64) (hl : ls.length ≤ 64) (hat : ∀ x ∈ ls, ∃ (i : Nat) (n : Nod), x = (i : Int) ∧ ns[i]? = some n ∧ AP ns x = (n.v, x)) : ∀ (d i : Nat), i + d = ls.length →
  Ev CCl Ab (Lp 187 0 (wpHd root (A9 ns) (A6 ls) g1 cs (apR 2 (A1 187 30) (Ai ((ls.map (AP ns)).take i))) (wpT g1 (Ai ((ls.map (AP ns)).take i))) i)) (.code (.exit 0) (wpOut root (A9 ns) (A6 ls) g1 cs (apR 2 (A1 187 30) (Ai (ls.map (AP ns)))) (wpT g1 (Ai (ls.map (AP ns))))))
 | 0, i, h => by
  have : (ls.map (AP ns)).take i = ls.map (AP ns) := List.take_of_length_le (by rw [List.length_map]; omega)
  rw [this]
  exact Ac (wp_exit _ _ _ _ _ _ _ _) (A0 (by rw [Ax]; exact dge (by omega)) A2)
 | d + 1, i, h => by
  have hi : i < ls.length := by omega
  have ih := wp_loop root ns ls g1 cs hn hl hat d (i + 1) (by omega)
  have ht : (ls.map (AP ns)).take (i + 1) = (ls.map (AP ns)).take i ++ [AP ns ls[i]] := by
   rw [List.take_succ_eq_append_getElem (by rw [List.length_map]; exact hi), List.getElem_map]
  have hk : Ai ((ls.map (AP ns)).take (i + 1)) = Ai ((ls.map (AP ns)).take i) ++ [kD (AP ns ls[i])] := by rw [ht]; simp [Ai]
  rw [hk] at ih
  have hlen : (Ai ((ls.map (AP ns)).take i)).length = i := by simp [Ai]; omega
  obtain ⟨j, n, hx, hnj, hky⟩ := hat _ (List.getElem_mem hi)
  have hb : decide ((i : Int) < ((A6 ls).length : Int)) = true := by rw [Ax]; exact dlt hi
  have hr : 0 ≤ (i : Int) ∧ (A6 ls)[((i : Int)).toNat]? = some [di ls[i]] := ⟨by omega, B2 (List.getElem?_eq_getElem hi)⟩
  have hq : 0 ≤ (j : Int) ∧ (A9 ns)[((j : Int)).toNat]? = some n.cs := ⟨by omega, AS hnj⟩
  rw [hky] at ih
  rw [hx] at hr ih
  obtain ⟨b, r, nv, nl, nr, nu⟩ := n
  generalize Ai ((ls.map (AP ns)).take i) = out at ih hlen ⊢
  cases out with
  | nil => exact Aa _ _ _ _ _ _ (wp_n root i j ((i + 1 : Nat) : Int) _ _ _ _ _ _ _ _ _ _ _ _) (A0 hb (A0 hr (A0 hq (A0 ⟨rfl, by unfold Am; omega⟩ (A0 (Ag (by omega)) (A0 ih A2))))))
  | cons c l =>
   rw [apR_sn, wpT_sn] at ih
   exact Aa _ _ _ _ _ _ (wp_s root i j ((i + 1 : Nat) : Int) _ _ _ _ _ _ _ _ _ _ _ _ _ _) (A0 hb (A0 hr (A0 hq (A0 ⟨rfl, rfl, by unfold Am; omega⟩ (A0 (Ag (by omega)) (A0 ih A2))))))
theorem wq_nil (root : Int) (rows : A8) (z : Bool) (h : H) : sV CCl 187 [.agg [di root, .mn 6 rows]] [(A1 182 6, .prim [.one (.mn 6 rows)]), (A1 187 11, .call (.tup [.d dnil, vb z]) h)] = some ([.one dnil], [], [clnS 6 [.one (.mn 6 rows)] = some [.one (.mn 6 rows)], Ev CCl Ab (.call 183 [.ptr (A1 182 11) 0 0] (tbHw root rows)) (.val (.tup [.d dnil, vb z]) h)]) := by kernel_rfl
theorem wq_st (root : Int) (rows ls out : A8) (z : Bool) (g1 s g : Nat) (cs : List AV) (t : AC) : sV CCl 187 [.agg [di root, .mn 6 rows]] [(A1 182 6, .prim [.one (.mn 6 rows)]), (A1 187 11, .call (.tup [.st 1 ls (A1 216 74) g1, vb z]) (Bo root rows (.st 1 ls (A1 216 74) g1) cs [(A1 216 74, g1)])), (A1 187 8001, .loop [1, 5, 14, 15, 16] (.exit 0) (wpOut root rows ls g1 cs (.st 2 out s g) t))] =
  some ([.one (.sl 2 false out)], [], [clnS 6 [.one (.mn 6 rows)] = some [.one (.mn 6 rows)], Ev CCl Ab (.call 183 [.ptr (A1 182 11) 0 0] (tbHw root rows)) (.val (.tup [.st 1 ls (A1 216 74) g1, vb z]) (Bo root rows (.st 1 ls (A1 216 74) g1) cs [(A1 216 74, g1)])),
   Ev CCl Ab (Lp 187 0 (wpHd root rows ls g1 cs (.d dnil) [(A1 216 74, g1)] 0)) (.code (.exit 0) (wpOut root rows ls g1 cs (.st 2 out s g) t))]) := by kernel_rfl
theorem clnS_at {sz : Nat} {rows : A8} (h : rows.length < 2 ^ 30) : clnS sz [.one (.mn sz rows)] = some [.one (.mn sz rows)] := by
 simp [clnS, h]
def waS30 : Spec
 | [.agg [.v (.int .i64 root), .mn 6 rows]] => match Ae nodR rows with
  | some ns => if ns.length < 2 ^ 30 then some [.one (.mn 2 (Ai (keysO root ns)))] else none
  | none => none
 | _ => none
theorem walkP_sat : AJ C0 187 waS30 := AJ.ctx (C := CCl) rfl rfl (Bh (O := Ab) hPCl (fun _ _ h => h.elim) Bm fun ps rs hs => by
 unfold waS30 at hs
 split at hs
 ·rename_i root rows
  split at hs
  ·rename_i ns hn
   split at hs
   ·rename_i h30
    cases hs
    obtain ⟨rfl, hv⟩ := nrows_of hn
    refine ⟨[.agg [di root, .mn 6 (A9 ns)]], ?_⟩
    have hw : WL [.agg [.v (.int .i64 root), .mn 6 (A9 ns)]] [.agg [di root, .mn 6 (A9 ns)]] := WL.same _
    have hc := clnS_at (sz := 6) (rows := A9 ns) (by rw [Ay]; exact h30)
    have ho := to_orderw root ns
    unfold keysO
    cases hord : ordO root ns with
    | none =>
     rw [hord] at ho
     obtain ⟨h, ho⟩ := ho
     exact ⟨_, hw, .cons (.one (.nil 2)) .nil, A4 (wq_nil root _ _ h) (A0 hc (A0 ho A2))⟩
    | some l =>
     rw [hord] at ho
     obtain ⟨cs, ho⟩ := ho
     cases l with
     | nil => exact ⟨_, hw, .cons (.one (.nil 2)) .nil, A4 (wq_nil root _ _ _) (A0 hc (A0 ho A2))⟩
     | cons x l =>
      obtain ⟨h64, hll, -⟩ := ordO_tree hord
      have hk := wp_loop root ns (x :: l) (2 * (A6 l).length + 1) cs h64 (by omega) (ordO_at hord) (x :: l).length 0 (by omega)
      exact ⟨_, hw, .cons (.one (.row 2 false _)) .nil, A4 (wq_st root _ _ _ _ _ _ _ cs _) (A0 hc (A0 ho (A0 hk A2)))⟩
   ·cases hs
  ·cases hs
 ·cases hs)
noncomputable def CTq : Ctx := Ad (Ad CCl 187 waS30) 186 sortS
theorem hPTq : Aw CTq := A7 (A7 hPCl (walkP_sat.ctx rfl rfl) (by kernel_rfl)) (sortedP_sat.ctx rfl rfl) (by kernel_rfl)
noncomputable def CTp : Ctx := { CTq with kp := fun f t => f == 185 && [18, 25].contains t }
theorem hPTp : Aw CTp := hPTq
def tcellr (root : Int) (rows : A8) : AO := .cells [vi root, .d (.mn 6 rows)] false
def wcellr (root : Int) (rows : A8) : AO := .cells [.d (.mn 6 rows), vi root, .fn (.fn (.func 214)) [.ptr (A1 182 11) 0 0] [], .fn (.fn (.func 215)) [.ptr (A1 182 11) 0 0] []] false
def AF (root : Int) (rows : A8) (a : AV) (cs : List AV) (t : AC) : H := { objs := [(A1 131 2, 1, [tcellr root rows]), (A1 182 1, 1, [tcellr root rows]), (A1 182 11, 1, [wcellr root rows]), (A1 183 4, 1, [.cells [a] false]), (A1 183 21, 1, [.cells cs false])], toks := t }
def tbHr (root : Int) (rows : A8) : H := { objs := [(A1 131 2, 1, [tcellr root rows]), (A1 182 1, 1, [tcellr root rows]), (A1 182 11, 1, [wcellr root rows])] }
def twAr (x up : Int) (n : Nat) : List AV := [.ptr (A1 182 11) 0 0, vi x, vi up, .hs (A1 183 21) 0 0 n 1, .ptr (A1 183 4) 0 0]
noncomputable def twCr (root : Int) (rows : A8) (a : AV) (cs : List AV) (t : AC) (x up : Int) (n : Nat) (sc : Ah) : SM Res := AY CTp Ab 60 (.call 216 (twAr x up n) (AF root rows a cs t)) sc
theorem tw_endr (root up : Int) (rows : A8) (a : AV) (cs : List AV) (t : AC) (n : Nat) : twCr root rows a cs t (-1) up n [] = some (.val (vb true) (AF root rows a cs t), [], []) := by kernel_rfl
theorem tw_negr (root x up : Int) (rows : A8) (a : AV) (cs : List AV) (t : AC) (n : Nat) : twCr root rows a cs t x up n [(A1 216 12, .b false), (A1 216 14, .b true)] = some (.val (vb false) (AF root rows a cs t), [], [(x == -1) = false, decide (x < 0) = true]) := by kernel_rfl
theorem tw_bigr (root x up : Int) (rows : A8) (a : AV) (cs : List AV) (t : AC) (n : Nat) : twCr root rows a cs t x up n [(A1 216 12, .b false), (A1 216 14, .b false), (A1 216 23, .b true)] = some (.val (vb false) (AF root rows a cs t), [], [(x == -1) = false, decide (x < 0) = false, decide (x ≥ (rows.length : Int)) = true]) := by kernel_rfl
def twSr (m : Nat) (z : Bool) (l : Ah) : Ah := (A1 216 12, .b false) :: (A1 216 14, .b false) :: (A1 216 23, .b false) :: (A1 216 28, .idx m) :: (A1 216 29, .ld (vb z)) :: l
def twOr (x : Int) (rows : A8) (cs : List AV) (n m : Nat) (z : Bool) (l : List Prop) : List Prop := ((x == -1) = false) :: (decide (x < 0) = false) :: (decide (x ≥ (rows.length : Int)) = false) :: (x = m ∧ m < n) :: (AE C0 4 cs (0 + m * 1) = some (vb z)) :: l
theorem tw_metr (root x up : Int) (rows : A8) (a : AV) (cs : List AV) (t : AC) (n m : Nat) : twCr root rows a cs t x up n (twSr m true []) = some (.val (vb false) (AF root rows a cs t), [], twOr x rows cs n m true []) := by kernel_rfl
theorem tw_outr (root x up : Int) (rows : A8) (a : AV) (cs : List AV) (t : AC) (n m : Nat) (r : Bool) (nv nl nr nu : Int) : twCr root rows a cs t x up n (twSr m false [(A1 216 38, .row (BU false r nv nl nr nu))]) = some (.val (vb false) (AF root rows a cs t), [], twOr x rows cs n m false [0 ≤ x ∧ rows[x.toNat]? = some (BU false r nv nl nr nu)]) := by kernel_rfl
def twIr (x : Int) (rows : A8) (r : Bool) (nv nl nr nu : Int) : Prop := 0 ≤ x ∧ rows[x.toNat]? = some (BU true r nv nl nr nu)
theorem tw_upr (root x up : Int) (rows : A8) (a : AV) (cs : List AV) (t : AC) (n m : Nat) (r : Bool) (nv nl nr nu : Int) : twCr root rows a cs t x up n (twSr m false [(A1 216 38, .row (BU true r nv nl nr nu)), (A1 230 10, .row (BU true r nv nl nr nu)), (A1 216 50, .b true)]) =
  some (.val (vb false) (AF root rows a cs t), [], twOr x rows cs n m false [twIr x rows r nv nl nr nu, twIr x rows r nv nl nr nu, (nu != up) = true]) := by kernel_rfl
def twMr (m : Nat) (cs' : List AV) (r : Bool) (nv nl nr nu : Int) (z : Bool) (h1 : H) (l : Ah) : Ah := twSr m false ((A1 216 38, .row (BU true r nv nl nr nu)) :: (A1 230 10, .row (BU true r nv nl nr nu)) :: (A1 216 50, .b false) :: (A1 216 54, .idx m) :: (A1 216 8000, .sto cs') :: (A1 214 10, .row (BU true r nv nl nr nu)) :: (A1 216 66, .call (vb z) h1) :: l)
def twQr (root x up : Int) (rows : A8) (a : AV) (cs cs' : List AV) (t : AC) (n m : Nat) (r : Bool) (nv nl nr nu : Int) (z : Bool) (h1 : H) (l : List Prop) : List Prop := twOr x rows cs n m false (twIr x rows r nv nl nr nu :: twIr x rows r nv nl nr nu :: ((nu != up) = false) :: (x = m ∧ m < n) :: stoEq C0 4 cs (0 + m * 1) (vb true) cs' :: twIr x rows r nv nl nr nu :: Ev CTp Ab (.call 216 (twAr nl x n) (AF root rows a cs' t)) (.val (vb z) h1) :: l)
theorem tw_lr (root x up : Int) (rows : A8) (a a1 : AV) (cs cs' cs1 : List AV) (t t1 : AC) (n m : Nat) (r : Bool) (nv nl nr nu : Int) : twCr root rows a cs t x up n (twMr m cs' r nv nl nr nu false (AF root rows a1 cs1 t1) []) = some (.val (vb false) (AF root rows a1 cs1 t1), [], twQr root x up rows a cs cs' t n m r nv nl nr nu false (AF root rows a1 cs1 t1) []) := by kernel_rfl
theorem tw_rnr (root x up : Int) (rows : A8) (a a2 : AV) (cs cs' cs1 cs2 : List AV) (t t2 : AC) (n m : Nat) (r z : Bool) (nv nl nr nu : Int) : twCr root rows a cs t x up n (twMr m cs' r nv nl nr nu true (AF root rows (.d dnil) cs1 []) [(A1 216 74, .app false), (A1 215 10, .row (BU true r nv nl nr nu)), (A1 216 87, .call (vb z) (AF root rows a2 cs2 t2))]) =
  some (.val (vb z) (AF root rows a2 cs2 t2), [], twQr root x up rows a cs cs' t n m r nv nl nr nu true (AF root rows (.d dnil) cs1 []) [false = false ∧ Am 0 1 8, twIr x rows r nv nl nr nu, Ev CTp Ab (.call 216 (twAr nr x n) (AF root rows (.st 1 [[di x]] (A1 216 74) 1) cs1 [(A1 216 74, 1)])) (.val (vb z) (AF root rows a2 cs2 t2))]) := by kernel_rfl
theorem tw_rsr (root x up : Int) (rows out : A8) (g : Nat) (a a2 : AV) (cs cs' cs1 cs2 : List AV) (t t2 : AC) (n m : Nat) (r z : Bool) (nv nl nr nu : Int) : twCr root rows a cs t x up n (twMr m cs' r nv nl nr nu true (AF root rows (.st 1 out (A1 216 74) g) cs1 [(A1 216 74, g)]) [(A1 216 74, .app false), (A1 215 10, .row (BU true r nv nl nr nu)), (A1 216 87, .call (vb z) (AF root rows a2 cs2 t2))]) =
  some (.val (vb z) (AF root rows a2 cs2 t2), [], twQr root x up rows a cs cs' t n m r nv nl nr nu true (AF root rows (.st 1 out (A1 216 74) g) cs1 [(A1 216 74, g)]) [false = false ∧ (g = g ∧ Am out.length 1 8), twIr x rows r nv nl nr nu, Ev CTp Ab (.call 216 (twAr nr x n) (AF root rows (.st 1 (out ++ [[di x]]) (A1 216 74) (g + 1 + 1)) cs1 [(A1 216 74, g + 1 + 1)])) (.val (vb z) (AF root rows a2 cs2 t2))]) := by kernel_rfl
theorem tw_walkr (root : Int) (ns : List Nod) (hn : ns.length ≤ 64) : ∀ (k : Nat) (x up : Int) (seen out : List Int), gIn ns seen → left ns.length seen < k → out.length ≤ seen.length →
  ((AZ ns k x up seen).2.2 = true → Ev CTp Ab (.call 216 (twAr x up ns.length) (AF root (A9 ns) (ouA out) (AK ns.length seen) (ouT out))) (.val (vb true) (AF root (A9 ns) (ouA (out ++ (AZ ns k x up seen).1)) (AK ns.length (AZ ns k x up seen).2.1) (ouT (out ++ (AZ ns k x up seen).1))))) ∧
  ((AZ ns k x up seen).2.2 = false → ∃ a cs t, Ev CTp Ab (.call 216 (twAr x up ns.length) (AF root (A9 ns) (ouA out) (AK ns.length seen) (ouT out))) (.val (vb false) (AF root (A9 ns) a cs t)))
 | 0, x, up, seen, out, hin, hk, ho => by omega
 | k + 1, x, up, seen, out, hin, hk, ho => by
  have hlen : seen.length ≤ ns.length := by unfold gIn at hin; omega
  by_cases hx : x = -1
  ·subst hx
   have e : AZ ns (k + 1) (-1) up seen = ([], seen, true) := by unfold AZ; rw [if_pos rfl]
   rw [e]
   exact ⟨fun _ => by rw [List.append_nil]; exact Aa _ _ _ _ _ _ (tw_endr root up _ _ _ _ _) A2, fun h => (by cases h)⟩
  ·have b0 : (x == -1) = false := by simpa using hx
   have bad : gok ns x up seen = none → (∃ a cs t, Ev CTp Ab (.call 216 (twAr x up ns.length) (AF root (A9 ns) (ouA out) (AK ns.length seen) (ouT out))) (.val (vb false) (AF root (A9 ns) a cs t))) →
    ((AZ ns (k + 1) x up seen).2.2 = true → Ev CTp Ab (.call 216 (twAr x up ns.length) (AF root (A9 ns) (ouA out) (AK ns.length seen) (ouT out))) (.val (vb true) (AF root (A9 ns) (ouA (out ++ (AZ ns (k + 1) x up seen).1)) (AK ns.length (AZ ns (k + 1) x up seen).2.1) (ouT (out ++ (AZ ns (k + 1) x up seen).1))))) ∧
    ((AZ ns (k + 1) x up seen).2.2 = false → ∃ a cs t, Ev CTp Ab (.call 216 (twAr x up ns.length) (AF root (A9 ns) (ouA out) (AK ns.length seen) (ouT out))) (.val (vb false) (AF root (A9 ns) a cs t))) := fun hg he => by
    have e : AZ ns (k + 1) x up seen = ([], seen, false) := by unfold AZ; rw [if_neg hx, hg]
    rw [e]
    exact ⟨fun h => (by cases h), fun _ => he⟩
   by_cases hx0 : x < 0
   ·have hg : gok ns x up seen = none := by simp [gok, Bk, hx0]
    exact bad hg ⟨_, _, _, Aa _ _ _ _ _ _ (tw_negr root x up _ _ _ _ _) (A0 b0 (A0 (decide_eq_true hx0) A2))⟩
   ·have b1 : decide (x < 0) = false := decide_eq_false hx0
    obtain ⟨i, rfl⟩ := Int.eq_ofNat_of_zero_le (Int.not_lt.1 hx0)
    have hna : Bk ns (i : Int) = ns[i]? := by unfold Bk; rw [if_neg hx0, Int.toNat_natCast]
    by_cases hi : i < ns.length
    ·have b2 : decide ((i : Int) ≥ ((A9 ns).length : Int)) = false := decide_eq_false (by rw [Ay]; omega)
     have hld : AE C0 4 (AK ns.length seen) (0 + i * 1) = some (vb (seen.contains (i : Int))) := by rw [ld1 agg4, metC_at hi]
     cases hm : seen.contains (i : Int) with
     | true =>
      rw [hm] at hld
      have hg : gok ns (i : Int) up seen = none := by unfold gok; rw [hna, List.getElem?_eq_getElem hi]; simp only [hm, Bool.true_or, if_true]
      exact bad hg ⟨_, _, _, Aa _ _ _ _ _ _ (tw_metr root _ up _ _ _ _ _ i) (A0 b0 (A0 b1 (A0 b2 (A0 ⟨rfl, hi⟩ (A0 hld A2)))))⟩
     | false =>
      rw [hm] at hld
      have hr0 : 0 ≤ (i : Int) ∧ (A9 ns)[((i : Int)).toNat]? = some (ns[i]).cs := ⟨by omega, AS (List.getElem?_eq_getElem hi)⟩
      have hgo : gok ns (i : Int) up seen = if (!ns[i].inn || ns[i].u != up) = true then none else some ns[i] := by
       unfold gok; rw [hna, List.getElem?_eq_getElem hi]; simp only [hm, Bool.false_or]
      generalize ns[i] = n at hr0 hgo
      obtain ⟨a, r, nv, nl, nr, nu⟩ := n
      have ob : ∀ {l : List Prop}, AI l → AI (twOr (i : Int) (A9 ns) (AK ns.length seen) ns.length i false l) := fun h =>
       A0 b0 (A0 b1 (A0 b2 (A0 ⟨rfl, hi⟩ (A0 hld h))))
      cases a with
      | false => exact bad (by rw [hgo]; rfl) ⟨_, _, _, Aa _ _ _ _ _ _ (tw_outr root _ up _ _ _ _ _ i r nv nl nr nu) (ob (A0 hr0 A2))⟩
      | true =>
       by_cases hu : nu = up
       ·subst hu
        have b3 : (nu != nu) = false := by simp
        have hg : gok ns (i : Int) nu seen = some ⟨true, r, nv, nl, nr, nu⟩ := by rw [hgo]; simp
        obtain ⟨hin2, hl2⟩ := gIn_snoc hin hg
        obtain ⟨hin3, hl3, hn3⟩ := gth_in k nl (i : Int) (seen ++ [(i : Int)]) hin2
        simp only [List.length_append, List.length_cons, List.length_nil] at hn3
        have ih1 := tw_walkr root ns hn k nl (i : Int) (seen ++ [(i : Int)]) out hin2 (by omega) (by simp only [List.length_append]; omega)
        have ih2 := tw_walkr root ns hn k nr (i : Int) (AZ ns k nl (i : Int) (seen ++ [(i : Int)])).2.1 (out ++ (AZ ns k nl (i : Int) (seen ++ [(i : Int)])).1 ++ [(i : Int)]) hin3 (by omega) (by simp only [List.length_append, List.length_cons, List.length_nil]; omega)
        have e : AZ ns (k + 1) (i : Int) nu seen = if (AZ ns k nl (i : Int) (seen ++ [(i : Int)])).2.2 then
          ((AZ ns k nl (i : Int) (seen ++ [(i : Int)])).1 ++ (i : Int) :: (AZ ns k nr (i : Int) (AZ ns k nl (i : Int) (seen ++ [(i : Int)])).2.1).1, (AZ ns k nr (i : Int) (AZ ns k nl (i : Int) (seen ++ [(i : Int)])).2.1).2.1, (AZ ns k nr (i : Int) (AZ ns k nl (i : Int) (seen ++ [(i : Int)])).2.1).2.2)
         else ([], (AZ ns k nl (i : Int) (seen ++ [(i : Int)])).2.1, false) := by
         show (if (i : Int) = -1 then ([], seen, true) else match gok ns (i : Int) nu seen with | none => ([], seen, false) | some n => _) = _
         rw [if_neg hx, hg]
        rw [e]
        have hst : stoEq C0 4 (AK ns.length seen) (0 + i * 1) (vb true) (AK ns.length (seen ++ [(i : Int)])) := by
         rw [← metC_set hi]
         exact sto1 size4 rfl rfl (by rw [metC_len]; exact hi)
        have hol : (out ++ (AZ ns k nl (i : Int) (seen ++ [(i : Int)])).1).length ≤ 64 := by
         have h3 : (AZ ns k nl (i : Int) (seen ++ [(i : Int)])).2.1.length + left ns.length (AZ ns k nl (i : Int) (seen ++ [(i : Int)])).2.1 ≤ ns.length := hin3
         rw [List.length_append]; omega
        generalize AZ ns k nl (i : Int) (seen ++ [(i : Int)]) = A at ih1 ih2 hol ⊢
        obtain ⟨al, as1, az⟩ := A
        simp only at ih1 ih2 hol ⊢
        generalize AZ ns k nr (i : Int) as1 = Bq at ih2 ⊢
        obtain ⟨bl, bs, bz⟩ := Bq
        simp only at ih2
        cases az with
        | false =>
         simp only [Bool.false_eq_true, if_false]
         refine ⟨fun h => (by cases h), fun _ => ?_⟩
         obtain ⟨a1, cs1, t1, he⟩ := ih1.2 rfl
         exact ⟨_, _, _, Aa _ _ _ _ _ _ (tw_lr root _ nu _ _ a1 _ _ cs1 _ t1 _ i r nv nl nr nu) (ob (A0 hr0 (A0 hr0 (A0 b3 (A0 ⟨rfl, hi⟩ (A0 hst (A0 hr0 (A0 he A2))))))))⟩
        | true =>
         have he1 := ih1.1 rfl
         simp only [if_true]
         have go : ∀ (z : Bool) (a2 : AV) (cs2 : List AV) (t2 : AC), Ev CTp Ab (.call 216 (twAr nr (i : Int) ns.length) (AF root (A9 ns) (ouA (out ++ al ++ [(i : Int)])) (AK ns.length as1) (ouT (out ++ al ++ [(i : Int)])))) (.val (vb z) (AF root (A9 ns) a2 cs2 t2)) →
          Ev CTp Ab (.call 216 (twAr (i : Int) nu ns.length) (AF root (A9 ns) (ouA out) (AK ns.length seen) (ouT out))) (.val (vb z) (AF root (A9 ns) a2 cs2 t2)) := fun z a2 cs2 t2 he2 => by
          generalize out ++ al = Lq at he1 he2 hol
          cases Lq with
          | nil => exact Aa _ _ _ _ _ _ (tw_rnr root _ nu _ _ a2 _ _ _ cs2 _ t2 _ i r z nv nl nr nu) (ob (A0 hr0 (A0 hr0 (A0 b3 (A0 ⟨rfl, hi⟩ (A0 hst (A0 hr0 (A0 he1 (A0 ⟨rfl, fits8 (by omega) (by omega)⟩ (A0 hr0 (A0 he2 A2)))))))))))
          | cons c l =>
           have ea : ouA (c :: l ++ [(i : Int)]) = .st 1 (([di c] :: A6 l) ++ [[di (i : Int)]]) (A1 216 74) (2 * (A6 l).length + 1 + 1 + 1) := by
            unfold ouA; rw [← (Bd 1 (A1 216 74) [di c] [di (i : Int)] (A6 l)).1]; simp [A6]
           have et : ouT (c :: l ++ [(i : Int)]) = [(A1 216 74, 2 * (A6 l).length + 1 + 1 + 1)] := by
            unfold ouT; rw [← (Bd 1 (A1 216 74) [di c] [di (i : Int)] (A6 l)).2]; simp [A6]
           rw [ea, et] at he2
           exact Aa _ _ _ _ _ _ (tw_rsr root _ nu _ ([di c] :: A6 l) (2 * (A6 l).length + 1) _ a2 _ _ _ cs2 _ t2 _ i r z nv nl nr nu) (ob (A0 hr0 (A0 hr0 (A0 b3 (A0 ⟨rfl, hi⟩ (A0 hst (A0 hr0 (A0 he1 (A0 ⟨rfl, rfl, fits8 (by simp [A6]; simp at hol; omega) (by omega)⟩ (A0 hr0 (A0 he2 A2)))))))))))
         refine ⟨fun h => ?_, fun h => ?_⟩
         ·have he2 := ih2.1 h
          have eq : out ++ (al ++ (i : Int) :: bl) = out ++ al ++ [(i : Int)] ++ bl := by simp
          rw [eq]
          exact go _ _ _ _ he2
         ·obtain ⟨a2, cs2, t2, he2⟩ := ih2.2 h
          exact ⟨a2, cs2, t2, go _ _ _ _ he2⟩
       ·have hg : gok ns (i : Int) up seen = none := by
         rw [hgo]
         have : (nu != up) = true := by simpa using hu
         simp [this]
        exact bad hg ⟨_, _, _, Aa _ _ _ _ _ _ (tw_upr root _ up _ _ _ _ _ i r nv nl nr nu) (ob (A0 hr0 (A0 hr0 (A0 (by simpa using hu) A2))))⟩
    ·have hg : gok ns (i : Int) up seen = none := by
      unfold gok
      rw [hna, List.getElem?_eq_none (by omega)]
     exact bad hg ⟨_, _, _, Aa _ _ _ _ _ _ (tw_bigr root _ up _ _ _ _ _) (A0 b0 (A0 b1 (A0 (decide_eq_true (by rw [Ay]; omega)) A2)))⟩
def toHdr (root : Int) (rows : A8) (a : AV) (cs : List AV) (t : AC) (n : Nat) (i : Int) : St := { σ := Ap 54 [(4, .ptr (A1 183 4) 0 0), (5, .hs (A1 183 21) 0 0 n 1), (35, .d (.mn 6 rows)), (36, vi rows.length), (37, vi i)], h := AF root rows a cs t }
def toOutr (root : Int) (rows : A8) (a : AV) (cs : List AV) (t : AC) : St := { σ := Ap 54 [(4, .ptr (A1 183 4) 0 0)], h := AF root rows a cs t }
def toRetr (root : Int) (rows : A8) (a : AV) (cs : List AV) (t : AC) : St := { σ := Ap 54 [(2, .d dnil), (3, vb false)], h := AF root rows a cs t }
def toXr (root : Int) (rows : A8) (a : AV) (cs : List AV) (t : AC) (nd : List DV) : H := { objs := [(A1 131 2, 1, [tcellr root rows]), (A1 182 1, 1, [tcellr root rows]), (A1 182 11, 1, [wcellr root rows]), (A1 183 4, 1, [.cells [a] false]), (A1 183 7, 1, [.cells (nd.map .d) false]), (A1 183 21, 1, [.cells cs false])], toks := t }
theorem to_exitr (root i : Int) (rows : A8) (a : AV) (cs : List AV) (t : AC) (n : Nat) : sM CTp 183 0 (toHdr root rows a cs t n i) [(A1 183 38, .b false)] [4] = some ((.exit 0, toOutr root rows a cs t), [], [decide (i < (rows.length : Int)) = false]) := by kernel_rfl
def toSr (b r : Bool) (nv nl nr nu : Int) (m : Nat) (z : Bool) (l : Ah) : Ah := (A1 183 38, .b true) :: (A1 183 40, .row (BU b r nv nl nr nu)) :: (A1 183 44, .idx m) :: (A1 183 45, .ld (vb z)) :: l
def toOr (i : Int) (rows : A8) (cs : List AV) (n : Nat) (b r : Bool) (nv nl nr nu : Int) (m : Nat) (z : Bool) (l : List Prop) : List Prop := (decide (i < (rows.length : Int)) = true) :: (0 ≤ i ∧ rows[i.toNat]? = some (BU b r nv nl nr nu)) :: (i = m ∧ m < n) :: (AE C0 4 cs (0 + m * 1) = some (vb z)) :: l
def toNr (i' : Int) (X : X) (st : St) : Ah := [(A1 183 52, .int i'), (A1 183 8002, .drop [A1 183 7] [4, 5, 35, 36, 37]), (A1 183 8001, .loop [4, 5, 35, 36, 37] X st)]
def toKr (root i i' : Int) (rows : A8) (a : AV) (cs : List AV) (t : AC) (n : Nat) (nd : List DV) (X : X) (st : St) : List Prop := [IntKind.wrap .i64 (i + 1) = i', hNone [A1 183 7] (AF root rows a cs t) = true, hFree [A1 183 7] (toXr root rows a cs t nd) = true, true = true, Ev CTp Ab (Lp 183 0 (toHdr root rows a cs t n i')) (.code X st)]
theorem to_metr (root i i' : Int) (rows : A8) (a : AV) (cs : List AV) (t : AC) (n m : Nat) (b r : Bool) (nv nl nr nu : Int) (X : X) (st : St) : AY CTp Ab 60 (Lp 183 0 (toHdr root rows a cs t n i)) (toSr b r nv nl nr nu m true (toNr i' X st)) =
  some (.code X st, [], toOr i rows cs n b r nv nl nr nu m true (toKr root i i' rows a cs t n (BU b r nv nl nr nu) X st)) := by kernel_rfl
theorem to_zeror (root i i' : Int) (rows : A8) (a : AV) (cs : List AV) (t : AC) (n m : Nat) (b r : Bool) (nv : Nat) (nl nr nu : Int) (X : X) (st : St) : AY CTp Ab 60 (Lp 183 0 (toHdr root rows a cs t n i)) (toSr b r nv nl nr nu m false ((A1 183 50, .eqv true) :: toNr i' X st)) =
  some (.code X st, [], toOr i rows cs n b r nv nl nr nu m false ((Ar Tryz.prog (Op.equal 117 (vNod ⟨b, r, nv, nl, nr, nu⟩) (vNod nodE)) = some true) :: toKr root i i' rows a cs t n (BU b r nv nl nr nu) X st)) := by kernel_rfl
theorem to_badr (root i : Int) (rows : A8) (a : AV) (cs : List AV) (t : AC) (n m : Nat) (b r : Bool) (nv : Nat) (nl nr nu : Int) : symD CTp Ab 60 183 false (BE Tryz.prog 183 0) (toHdr root rows a cs t n i) (toSr b r nv nl nr nu m false [(A1 183 50, .eqv false)]) [2, 3] [A1 183 7] =
  some ((.ret, toRetr root rows a cs t), [], toOr i rows cs n b r nv nl nr nu m false [Ar Tryz.prog (Op.equal 117 (vNod ⟨b, r, nv, nl, nr, nu⟩) (vNod nodE)) = some false, hNone [A1 183 7] (AF root rows a cs t) = true, hFree [A1 183 7] (toXr root rows a cs t (BU b r nv nl nr nu)) = true, true = true]) := by kernel_rfl
theorem toX_freer (root : Int) (rows : A8) (out : List Int) (n : Nat) (seen : List Int) (t : AC) (nd : List DV) : hFree [A1 183 7] (toXr root rows (ouA out) (AK n seen) t nd) = true := by
 have h1 : BD [A1 183 7] (ouA out) = true := by cases out <;> rfl
 have h2 : AT [A1 183 7] (AK n seen) = true := metC_free _ _ _
 have h3 : BD [A1 183 7] (vi root) = true := rfl
 simp only [A1, Nat.reduceMul, Nat.reduceAdd] at h1 h2 h3
 simp [hFree, toXr, objFree, AT, h1, h2, h3, tcellr, wcellr, BD, A1]
def toResr (root : Int) (rows : A8) (a : AV) (cs : List AV) (t : AC) (ok : Bool) : X × St := if ok then (.exit 0, toOutr root rows a cs t) else (.ret, toRetr root rows a cs t)
theorem to_loopr (root : Int) (ns : List Nod) (out seen : List Int) (t : AC) (hn : ns.length ≤ 64) : ∀ (d i : Nat), i + d = ns.length →
  Ev CTp Ab (Lp 183 0 (toHdr root (A9 ns) (ouA out) (AK ns.length seen) t ns.length i)) (.code (toResr root (A9 ns) (ouA out) (AK ns.length seen) t (((List.range ns.length).drop i).all fun j : Nat => seen.contains (j : Int) || BP ns j)).1 (toResr root (A9 ns) (ouA out) (AK ns.length seen) t (((List.range ns.length).drop i).all fun j : Nat => seen.contains (j : Int) || BP ns j)).2)
 | 0, i, h => by
  have : (List.range ns.length).drop i = [] := List.drop_eq_nil_of_le (by simp; omega)
  rw [this]
  exact Ac (to_exitr _ _ _ _ _ _ _) (A0 (by rw [Ay]; exact dge (by omega)) A2)
 | d + 1, i, h => by
  have hi : i < ns.length := by omega
  have hd : (List.range ns.length).drop i = i :: (List.range ns.length).drop (i + 1) := by
   have := List.drop_eq_getElem_cons (l := List.range ns.length) (i := i) (by simpa using hi)
   simpa using this
  have ih := to_loopr root ns out seen t hn d (i + 1) (by omega)
  have hb : decide ((i : Int) < ((A9 ns).length : Int)) = true := by rw [Ay]; exact dlt hi
  have hr : 0 ≤ (i : Int) ∧ (A9 ns)[((i : Int)).toNat]? = some (ns[i]).cs := ⟨by omega, AS (List.getElem?_eq_getElem hi)⟩
  have hld : AE C0 4 (AK ns.length seen) (0 + i * 1) = some (vb (seen.contains (i : Int))) := by rw [ld1 agg4, metC_at hi]
  have hz : BP ns i = ns[i].zero := by simp only [BP, List.getElem?_eq_getElem hi]
  have hq := nod_zero ns[i]
  rw [hd, List.all_cons, hz]
  generalize ns[i] = n at hr hq ⊢
  obtain ⟨b, r, nv, nl, nr, nu⟩ := n
  cases hm : seen.contains (i : Int) with
  | true =>
   rw [hm] at hld
   rw [Bool.true_or, Bool.true_and]
   exact Aa _ _ _ _ _ _ (to_metr root i ((i + 1 : Nat) : Int) _ _ _ _ _ i b r nv nl nr nu _ _) (A0 hb (A0 hr (A0 ⟨rfl, hi⟩ (A0 hld (A0 (Ag (by omega)) (A0 rfl (A0 (toX_freer _ _ _ _ _ _ _) (A0 rfl (A0 ih A2)))))))))
  | false =>
   rw [hm] at hld
   rw [Bool.false_or]
   cases hc : Nod.zero ⟨b, r, nv, nl, nr, nu⟩ with
   | true =>
    rw [hc] at hq
    rw [Bool.true_and]
    exact Aa _ _ _ _ _ _ (to_zeror root i ((i + 1 : Nat) : Int) _ _ _ _ _ i b r nv nl nr nu _ _) (A0 hb (A0 hr (A0 ⟨rfl, hi⟩ (A0 hld (A0 hq (A0 (Ag (by omega)) (A0 rfl (A0 (toX_freer _ _ _ _ _ _ _) (A0 rfl (A0 ih A2))))))))))
   | false =>
    rw [hc] at hq
    rw [Bool.false_and]
    exact B4 (to_badr root i _ _ _ _ _ i b r nv nl nr nu) (A0 hb (A0 hr (A0 ⟨rfl, hi⟩ (A0 hld (A0 hq (A0 rfl (A0 (toX_freer _ _ _ _ _ _ _) (A0 rfl A2))))))))
noncomputable def toCr (root : Int) (rows : A8) (sc : Ah) : SM Res := AY CTp Ab 60 (.call 183 [.ptr (A1 182 11) 0 0] (tbHr root rows)) sc
theorem to_longr (root : Int) (rows : A8) : toCr root rows [(A1 183 14, .b true)] = some (.val (.tup [.d dnil, vb false]) (tbHr root rows), [], [decide ((rows.length : Int) > 64) = true]) := by kernel_rfl
def toIr (root : Int) (rows : A8) (n : Nat) (z : Bool) (a : AV) (cs : List AV) (t : AC) (l : List Prop) : List Prop := (decide ((rows.length : Int) > 64) = false) :: mkOb n rows.length :: (Ev CTp Ab (.call 216 (twAr root (-1) n) (AF root rows (.d dnil) (mkN n) [])) (.val (vb z) (AF root rows a cs t))) :: l
def toJr (root : Int) (rows : A8) (n : Nat) (z : Bool) (a : AV) (cs : List AV) (t : AC) (l : Ah) : Ah := (A1 183 14, .b false) :: (A1 183 21, .mks n) :: (A1 183 29, .call (vb z) (AF root rows a cs t)) :: l
theorem to_nor (root : Int) (rows : A8) (n : Nat) (a : AV) (cs : List AV) (t : AC) : toCr root rows (toJr root rows n false a cs t []) = some (.val (.tup [.d dnil, vb false]) (AF root rows a cs t), [], toIr root rows n false a cs t []) := by kernel_rfl
theorem to_inr (root : Int) (rows : A8) (n : Nat) (a : AV) (cs : List AV) (t : AC) : toCr root rows (toJr root rows n true a cs t [(A1 183 8001, .loop [4, 5, 35, 36, 37] .ret (toRetr root rows a cs t))]) = some (.val (.tup [.d dnil, vb false]) (AF root rows a cs t), [], toIr root rows n true a cs t [Ev CTp Ab (Lp 183 0 (toHdr root rows a cs t n 0)) (.code .ret (toRetr root rows a cs t))]) := by kernel_rfl
theorem to_okr (root : Int) (rows : A8) (n : Nat) (a : AV) (cs : List AV) (t : AC) : toCr root rows (toJr root rows n true a cs t [(A1 183 8001, .loop [4, 5, 35, 36, 37] (.exit 0) (toOutr root rows a cs t))]) = some (.val (.tup [a, vb true]) (AF root rows a cs t), [], toIr root rows n true a cs t [Ev CTp Ab (Lp 183 0 (toHdr root rows a cs t n 0)) (.code (.exit 0) (toOutr root rows a cs t))]) := by kernel_rfl
theorem to_orderr (root : Int) (ns : List Nod) : match ordO root ns with
  | some l => ∃ cs, Ev CTp Ab (.call 183 [.ptr (A1 182 11) 0 0] (tbHr root (A9 ns))) (.val (.tup [ouA l, vb true]) (AF root (A9 ns) (ouA l) cs (ouT l)))
  | none => ∃ h, Ev CTp Ab (.call 183 [.ptr (A1 182 11) 0 0] (tbHr root (A9 ns))) (.val (.tup [.d dnil, vb false]) h) := by
 unfold ordO
 by_cases h64 : 64 < ns.length
 ·rw [if_pos h64]
  exact ⟨_, Aa _ _ _ _ _ _ (to_longr root _) (A0 (decide_eq_true (by rw [Ay]; omega)) A2)⟩
 ·rw [if_neg h64]
  have b0 : decide (((A9 ns).length : Int) > 64) = false := decide_eq_false (by rw [Ay]; omega)
  have b1 : mkOb ns.length ((A9 ns).length : Nat) := by rw [Ay]; exact mkOb_ok (by omega)
  have hw := tw_walkr root ns (by omega) (ns.length + 1) root (-1) [] [] (gIn_nil ns) (by rw [Cx]; omega) (Nat.le_refl _)
  have em : AK ns.length [] = mkN ns.length := metC_nil _
  rw [em] at hw
  have eo : ouA [] = .d dnil := rfl
  have et : ouT [] = [] := rfl
  rw [eo, et] at hw
  have e : AZ ns (ns.length + 1) root (-1) [] = B3 ns root (-1) [] := rfl
  rw [e] at hw
  generalize B3 ns root (-1) [] = g at hw ⊢
  obtain ⟨l, s1, z⟩ := g
  simp only [List.nil_append] at hw ⊢
  cases z with
  | false =>
   obtain ⟨a, cs, t, he⟩ := hw.2 rfl
   simp only [Bool.false_and, Bool.false_eq_true, if_false]
   exact ⟨_, Aa _ _ _ _ _ _ (to_nor root _ _ a cs t) (A0 b0 (A0 b1 (A0 he A2)))⟩
  | true =>
   have he := hw.1 rfl
   have hk := to_loopr root ns l s1 (ouT l) (by omega) ns.length 0 (by omega)
   rw [List.drop_zero] at hk
   simp only [Bool.true_and]
   cases hc : ((List.range ns.length).all fun j : Nat => s1.contains (j : Int) || BP ns j) with
   | false =>
    rw [hc] at hk
    simp only [Bool.false_eq_true, if_false]
    exact ⟨_, Aa _ _ _ _ _ _ (to_inr root _ _ _ _ _) (A0 b0 (A0 b1 (A0 he (A0 hk A2))))⟩
   | true =>
    rw [hc] at hk
    simp only [if_true]
    exact ⟨_, Aa _ _ _ _ _ _ (to_okr root _ _ _ _ _) (A0 b0 (A0 b1 (A0 he (A0 hk A2))))⟩
def wP : AV := .ptr (A1 182 11) 0 0
noncomputable def rpC (root : Int) (rows : A8) (a : AV) (cs : List AV) (t : AC) (x : Int) (sc : Ah) : SM Res := AY CTp Ab 60 (.call 184 [wP, vi x] (AF root rows a cs t)) sc
theorem rp_neg (root x : Int) (rows : A8) (a : AV) (cs : List AV) (t : AC) : rpC root rows a cs t x [(A1 184 6, .b false)] = some (.val (vb false) (AF root rows a cs t), [], [decide (x ≥ 0) = false]) := by kernel_rfl
theorem rp_at (root x : Int) (rows : A8) (a : AV) (cs : List AV) (t : AC) (b r : Bool) (nv nl nr nu : Int) : rpC root rows a cs t x [(A1 184 6, .b true), (A1 184 13, .row (BU b r nv nl nr nu))] = some (.val (vb r) (AF root rows a cs t), [], [decide (x ≥ 0) = true, 0 ≤ x ∧ rows[x.toNat]? = some (BU b r nv nl nr nu)]) := by kernel_rfl
theorem rp_ev (root : Int) (ns : List Nod) (a : AV) (cs : List AV) (t : AC) {x : Int} (h : x < 0 ∨ ∃ n, Bk ns x = some n) : Ev CTp Ab (.call 184 [wP, vi x] (AF root (A9 ns) a cs t)) (.val (vb (BS ns x)) (AF root (A9 ns) a cs t)) := by
 rcases h with h | ⟨n, h⟩
 ·have e : BS ns x = false := by unfold BS Bk; rw [if_pos h]
  rw [e]
  exact Aa _ _ _ _ _ _ (rp_neg root x _ _ _ _) (A0 (decide_eq_false (by omega)) A2)
 ·have e : BS ns x = n.red := by unfold BS; rw [h]
  rw [e]
  obtain ⟨i, rfl, -, hi⟩ := C9 h
  exact Aa _ _ _ _ _ _ (rp_at root i _ _ _ _ n.inn n.red n.v n.l n.r n.u) (A0 (decide_eq_true (by omega)) (A0 ⟨by omega, AS hi⟩ A2))
noncomputable def bpC (root : Int) (rows : A8) (a : AV) (cs : List AV) (t : AC) (x : Int) (sc : Ah) : SM Res := AY CTp Ab 60 (.call 185 [wP, vi x] (AF root rows a cs t)) sc
theorem bp_neg (root : Int) (rows : A8) (a : AV) (cs : List AV) (t : AC) : bpC root rows a cs t (-1) [] = some (.val (.tup [vi 0, vb true]) (AF root rows a cs t), [], []) := by kernel_rfl
def bpS (b r : Bool) (nv nl nr nu p q : Int) (z1 z2 : Bool) (h : H) (l : Ah) : Ah := (A1 185 13, .b false) :: (A1 214 10, .row (BU b r nv nl nr nu)) :: (A1 215 10, .row (BU b r nv nl nr nu)) :: (A1 185 31, .call (.tup [vi p, vb z1]) h) :: (A1 185 37, .call (.tup [vi q, vb z2]) h) :: l
def kpt (root : Int) (rows : A8) (a : AV) (cs : List AV) (t : AC) : Prop := AllKept (AF root rows a cs t) (AF root rows a cs t)
theorem kpt_ok (root : Int) (rows : A8) (a : AV) (cs : List AV) (t : AC) : kpt root rows a cs t := fun _ _ _ h => h
def bpE (root x : Int) (rows : A8) (a : AV) (cs : List AV) (t : AC) (p : Int) (z : Bool) : Prop := Ev CTp Ab (.call 185 [wP, vi x] (AF root rows a cs t)) (.val (.tup [vi p, vb z]) (AF root rows a cs t))
def rdE (root x : Int) (rows : A8) (a : AV) (cs : List AV) (t : AC) (z : Bool) : Prop := Ev CTp Ab (.call 184 [wP, vi x] (AF root rows a cs t)) (.val (vb z) (AF root rows a cs t))
def bpO (root x : Int) (rows : A8) (a : AV) (cs : List AV) (t : AC) (b r : Bool) (nv nl nr nu p q : Int) (z1 z2 : Bool) (l : List Prop) : List Prop := (decide (x < 0) = false) :: (0 ≤ x ∧ rows[x.toNat]? = some (BU b r nv nl nr nu)) :: kpt root rows a cs t :: (0 ≤ x ∧ rows[x.toNat]? = some (BU b r nv nl nr nu)) :: kpt root rows a cs t :: bpE root nl rows a cs t p z1 :: bpE root nr rows a cs t q z2 :: l
theorem bp_1 (root x : Int) (rows : A8) (a : AV) (cs : List AV) (t : AC) (b r z2 : Bool) (nv nl nr nu p q : Int) : bpC root rows a cs t x (bpS b r nv nl nr nu p q false z2 (AF root rows a cs t) []) = some (.val (.tup [vi 0, vb false]) (AF root rows a cs t), [], bpO root x rows a cs t b r nv nl nr nu p q false z2 []) := by kernel_rfl
theorem bp_2 (root x : Int) (rows : A8) (a : AV) (cs : List AV) (t : AC) (b r : Bool) (nv nl nr nu p q : Int) : bpC root rows a cs t x (bpS b r nv nl nr nu p q true false (AF root rows a cs t) []) = some (.val (.tup [vi 0, vb false]) (AF root rows a cs t), [], bpO root x rows a cs t b r nv nl nr nu p q true false []) := by kernel_rfl
theorem bp_3 (root x : Int) (rows : A8) (a : AV) (cs : List AV) (t : AC) (b r : Bool) (nv nl nr nu p q : Int) : bpC root rows a cs t x (bpS b r nv nl nr nu p q true true (AF root rows a cs t) [(A1 185 50, .b true)]) = some (.val (.tup [vi 0, vb false]) (AF root rows a cs t), [], bpO root x rows a cs t b r nv nl nr nu p q true true [(p != q) = true]) := by kernel_rfl
theorem bp_4 (root x : Int) (rows : A8) (a : AV) (cs : List AV) (t : AC) (b r : Bool) (nv nl nr nu p q p' : Int) : bpC root rows a cs t x (bpS b r nv nl nr nu p q true true (AF root rows a cs t) [(A1 185 50, .b false), (A1 185 57, .call (vb false) (AF root rows a cs t)), (A1 185 78, .call (vb false) (AF root rows a cs t)), (A1 185 81, .int p')]) = some (.val (.tup [vi p', vb true]) (AF root rows a cs t), [], bpO root x rows a cs t b r nv nl nr nu p q true true [(p != q) = false, rdE root x rows a cs t false, rdE root x rows a cs t false, IntKind.wrap .i64 (p + 1) = p']) := by kernel_rfl
theorem bp_5 (root x : Int) (rows : A8) (a : AV) (cs : List AV) (t : AC) (b r : Bool) (nv nl nr nu p q : Int) : bpC root rows a cs t x (bpS b r nv nl nr nu p q true true (AF root rows a cs t) [(A1 185 50, .b false), (A1 185 57, .call (vb true) (AF root rows a cs t)), (A1 185 63, .call (vb true) (AF root rows a cs t))]) = some (.val (.tup [vi 0, vb false]) (AF root rows a cs t), [], bpO root x rows a cs t b r nv nl nr nu p q true true [(p != q) = false, rdE root x rows a cs t true, rdE root nl rows a cs t true]) := by kernel_rfl
theorem bp_6 (root x : Int) (rows : A8) (a : AV) (cs : List AV) (t : AC) (b r : Bool) (nv nl nr nu p q : Int) : bpC root rows a cs t x (bpS b r nv nl nr nu p q true true (AF root rows a cs t) [(A1 185 50, .b false), (A1 185 57, .call (vb true) (AF root rows a cs t)), (A1 185 63, .call (vb false) (AF root rows a cs t)), (A1 185 69, .call (vb true) (AF root rows a cs t))]) = some (.val (.tup [vi 0, vb false]) (AF root rows a cs t), [], bpO root x rows a cs t b r nv nl nr nu p q true true [(p != q) = false, rdE root x rows a cs t true, rdE root nl rows a cs t false, rdE root nr rows a cs t true]) := by kernel_rfl
theorem bp_7 (root x : Int) (rows : A8) (a : AV) (cs : List AV) (t : AC) (b r : Bool) (nv nl nr nu p q : Int) : bpC root rows a cs t x (bpS b r nv nl nr nu p q true true (AF root rows a cs t) [(A1 185 50, .b false), (A1 185 57, .call (vb true) (AF root rows a cs t)), (A1 185 63, .call (vb false) (AF root rows a cs t)), (A1 185 69, .call (vb false) (AF root rows a cs t)), (A1 185 78, .call (vb true) (AF root rows a cs t))]) = some (.val (.tup [vi p, vb true]) (AF root rows a cs t), [], bpO root x rows a cs t b r nv nl nr nu p q true true [(p != q) = false, rdE root x rows a cs t true, rdE root nl rows a cs t false, rdE root nr rows a cs t false, rdE root x rows a cs t true]) := by kernel_rfl
def blP (ns : List Nod) (tr : BT) : Int × Bool := match blkT ns tr with | some a => ((a : Int), true) | none => (0, false)
theorem bp_ev (root : Int) (ns : List Nod) (a : AV) (cs : List AV) (t : AC) : ∀ (tr : BT) (x : Int), isB ns tr x = true → tr.deep ≤ 100 → bpE root x (A9 ns) a cs t (blP ns tr).1 (blP ns tr).2
 | .nil, x, h, _ => by
  have hx : x = -1 := by simpa [isB] using h
  subst hx
  exact Aa _ _ _ _ _ _ (bp_neg root _ _ _ _) A2
 | .node l y r, x, h, hd => by
  cases hna : Bk ns x with
  | none => simp [isB, hna] at h
  | some n =>
   simp only [isB, hna, Bool.and_eq_true, beq_iff_eq] at h
   obtain ⟨hy, hl, hr⟩ := h
   subst hy
   simp only [BT.deep] at hd
   have i1 := bp_ev root ns a cs t l n.l hl (by omega)
   have i2 := bp_ev root ns a cs t r n.r hr (by omega)
   have r0 := rp_ev root ns a cs t (x := y) (.inr ⟨n, hna⟩)
   have r1 := rp_ev root ns a cs t (isB_root hl)
   have r2 := rp_ev root ns a cs t (isB_root hr)
   have e0 : BS ns y = n.red := by unfold BS; rw [hna]
   rw [e0] at r0
   have hbl : blP ns (.node l y r) = (match blkT ns l, blkT ns r with
    | some a, some b => if a = b ∧ (n.red && (BS ns n.l || BS ns n.r)) = false then ((if n.red then (a : Int) else a + 1), true) else (0, false)
    | _, _ => (0, false)) := by
    unfold blP
    simp only [blkT, hna]
    cases blkT ns l with
    | none => rfl
    | some a =>
     cases blkT ns r with
     | none => rfl
     | some b =>
      by_cases hc : a = b ∧ (n.red && (BS ns n.l || BS ns n.r)) = false
      ·simp only [if_pos hc]
       split <;> simp
      ·simp only [if_neg hc]
   rw [hbl]
   obtain ⟨i, rfl, -, hi⟩ := C9 hna
   have hq : 0 ≤ (i : Int) ∧ (A9 ns)[((i : Int)).toNat]? = some n.cs := ⟨by omega, AS hi⟩
   have b0 : decide ((i : Int) < 0) = false := decide_eq_false (by omega)
   unfold blP at i1 i2
   have kk := kpt_ok root (A9 ns) a cs t
   have ob : ∀ {lp : List Prop}, AI lp → AI (bpO root (i : Int) (A9 ns) a cs t n.inn n.red n.v n.l n.r n.u _ _ _ _ lp) := fun h => A0 b0 (A0 hq (A0 kk (A0 hq (A0 kk (A0 i1 (A0 i2 h))))))
   cases h1 : blkT ns l with
   | none =>
    rw [h1] at ob
    exact Aa _ _ _ _ _ _ (bp_1 root i _ _ _ _ n.inn n.red _ n.v n.l n.r n.u _ _) (ob A2)
   | some p =>
    rw [h1] at ob
    have hp := blkT_le h1
    cases h2 : blkT ns r with
    | none =>
     rw [h2] at ob
     exact Aa _ _ _ _ _ _ (bp_2 root i _ _ _ _ n.inn n.red n.v n.l n.r n.u _ _) (ob A2)
    | some q =>
     rw [h2] at ob
     simp only at ob ⊢
     by_cases hab : p = q
     ·subst hab
      have ne : ((p : Int) != (p : Int)) = false := by simp
      cases hrd : n.red with
      | false =>
       rw [hrd] at r0
       simp only [Bool.false_and, and_self, if_true, Bool.false_eq_true, if_false]
       exact Aa _ _ _ _ _ _ (bp_4 root i _ _ _ _ n.inn n.red n.v n.l n.r n.u _ _ ((p : Int) + 1)) (ob (A0 ne (A0 r0 (A0 r0 (A0 (Ag (i := p) (by omega)) A2)))))
      | true =>
       rw [hrd] at r0
       cases hl1 : BS ns n.l with
       | true =>
        rw [hl1] at r1
        simp only [Bool.true_or, Bool.true_and, Bool.true_eq_false, and_false, if_false]
        exact Aa _ _ _ _ _ _ (bp_5 root i _ _ _ _ n.inn n.red n.v n.l n.r n.u _ _) (ob (A0 ne (A0 r0 (A0 r1 A2))))
       | false =>
        rw [hl1] at r1
        cases hr1 : BS ns n.r with
        | true =>
         rw [hr1] at r2
         simp only [Bool.or_true, Bool.true_and, Bool.true_eq_false, and_false, if_false]
         exact Aa _ _ _ _ _ _ (bp_6 root i _ _ _ _ n.inn n.red n.v n.l n.r n.u _ _) (ob (A0 ne (A0 r0 (A0 r1 (A0 r2 A2)))))
        | false =>
         rw [hr1] at r2
         simp only [Bool.or_false, Bool.and_false, and_self, if_true]
         exact Aa _ _ _ _ _ _ (bp_7 root i _ _ _ _ n.inn n.red n.v n.l n.r n.u _ _) (ob (A0 ne (A0 r0 (A0 r1 (A0 r2 (A0 r0 A2))))))
     ·have ne : ((p : Int) != (q : Int)) = true := by
       have : ¬ (p : Int) = (q : Int) := by omega
       simpa using this
      rw [if_neg (fun h => hab h.1)]
      exact Aa _ _ _ _ _ _ (bp_3 root i _ _ _ _ n.inn n.red n.v n.l n.r n.u _ _) (ob (A0 ne A2))
def tqS (rows : A8) (a : AV) (z : Bool) (h : H) (l : Ah) : Ah := (A1 182 6, .prim [.one (.mn 6 rows)]) :: (A1 131 14, .call (.tup [a, vb z]) h) :: l
def tqO (root : Int) (rows : A8) (a : AV) (z : Bool) (h : H) (l : List Prop) : List Prop := (clnS 6 [.one (.mn 6 rows)] = some [.one (.mn 6 rows)]) :: (Ev CTp Ab (.call 183 [.ptr (A1 182 11) 0 0] (tbHr root rows)) (.val (.tup [a, vb z]) h)) :: l
theorem tq_no (root m : Int) (rows : A8) (a : AV) (h : H) : sV CTp 131 (trA root m rows) (tqS rows a false h []) = some ([A3 false], [], tqO root rows a false h []) := by kernel_rfl
theorem tq_red (root m : Int) (rows : A8) (a : AV) (cs : List AV) (t : AC) : sV CTp 131 (trA root m rows) (tqS rows a true (AF root rows a cs t) [(A1 131 28, .call (vb true) (AF root rows a cs t))]) = some ([A3 false], [], tqO root rows a true (AF root rows a cs t) [rdE root root rows a cs t true]) := by kernel_rfl
theorem tq_bl (root m p : Int) (rows : A8) (a : AV) (cs : List AV) (t : AC) : sV CTp 131 (trA root m rows) (tqS rows a true (AF root rows a cs t) [(A1 131 28, .call (vb false) (AF root rows a cs t)), (A1 131 37, .call (.tup [vi p, vb false]) (AF root rows a cs t))]) =
  some ([A3 false], [], tqO root rows a true (AF root rows a cs t) [rdE root root rows a cs t false, bpE root root rows a cs t p false]) := by kernel_rfl
theorem tq_ok (root m p : Int) (rows ks : A8) (a : AV) (cs : List AV) (t : AC) (z : Bool) : sV CTp 131 (trA root m rows) (tqS rows a true (AF root rows a cs t) [(A1 131 28, .call (vb false) (AF root rows a cs t)), (A1 131 37, .call (.tup [vi p, vb true]) (AF root rows a cs t)), (A1 131 44, .prim [.one (.mn 2 ks)]), (A1 131 45, .prim [A3 z])]) =
  some ([A3 z], [], tqO root rows a true (AF root rows a cs t) [rdE root root rows a cs t false, bpE root root rows a cs t p true, waS30 [.agg [di root, .mn 6 rows]] = some [.one (.mn 2 ks)], sortS [pu m, .one (.mn 2 ks)] = some [A3 z]]) := by kernel_rfl
theorem waS30_at {root : Int} {ns : List Nod} (hv : ∀ n ∈ ns, n.v < 2 ^ 64) (h : ns.length < 2 ^ 30) : waS30 [.agg [di root, .mn 6 (A9 ns)]] = some [.one (.mn 2 (Ai (keysO root ns)))] := by
 simp only [waS30, di, C8 hv]
 rw [if_pos h]
def treS30 : Spec
 | [.agg [.v (.int .i64 root), .mn 6 rows], .one (.v (.int .u64 m))] => match Ae nodR rows with
  | some ns => if 0 ≤ m ∧ m < 2 ^ 64 ∧ ns.length < 2 ^ 30 then some [A3 (treeR root ns m.toNat)] else none
  | none => none
 | _ => none
theorem treS30_at {root : Int} {ns : List Nod} {m : Nat} (hv : ∀ n ∈ ns, n.v < 2 ^ 64) (hm : m < 2 ^ 64) (hl : ns.length < 2 ^ 30) : treS30 [.agg [di root, .mn 6 (A9 ns)], pu m] = some [A3 (treeR root ns m)] := by
 have : (0 : Int) ≤ (m : Int) ∧ (m : Int) < 2 ^ 64 ∧ ns.length < 2 ^ 30 := ⟨by omega, by exact_mod_cast hm, hl⟩
 simp only [treS30, di, pu, C8 hv]
 rw [if_pos this, Int.toNat_natCast]
theorem treeP_sat : AJ C0 131 treS30 := AJ.ctx (C := CTp) rfl rfl (Af (O := Ab) hPTp (fun _ _ h => h.elim) Bm fun ps rs hs => by
 unfold treS30 at hs
 split at hs
 ·rename_i root rows m
  split at hs
  ·rename_i ns hn
   split at hs
   ·rename_i hc
    obtain ⟨mn, rfl⟩ := Int.eq_ofNat_of_zero_le hc.1
    have hm : mn < 2 ^ 64 := by have := hc.2.1; exact_mod_cast this
    have h30 := hc.2.2
    simp only [Option.some.injEq, Int.toNat_natCast] at hs
    subst hs
    obtain ⟨rfl, hv⟩ := nrows_of hn
    have hcl := clnS_at (sz := 6) (rows := A9 ns) (by rw [Ay]; exact h30)
    have hord := to_orderr root ns
    unfold treeR
    cases ho : ordO root ns with
    | none =>
     rw [ho] at hord
     obtain ⟨h, hord⟩ := hord
     exact A4 (tq_no root mn _ _ h) (A0 hcl (A0 hord A2))
    | some l =>
     rw [ho] at hord
     obtain ⟨cs, hord⟩ := hord
     obtain ⟨h64, -, t, hI, -, -, hpl⟩ := ordO_tree ho
     have hdeep := t.deep_le
     have htr : Cp ns 64 root = t := trOf_eq 64 t root (-1) hI (by omega)
     have hb : isB ns (Cp ns 64 root) root = true := by rw [htr]; exact hI.b
     have hr := rp_ev root ns (ouA l) cs (ouT l) (isB_root hb)
     have hbl := bp_ev root ns (ouA l) cs (ouT l) (Cp ns 64 root) root hb (by have := trOf_deep (ns := ns) 64 root; omega)
     have hwa := waS30_at (root := root) hv h30
     have hso := sortS_at hm (by have := keysO_len (root := root) (ns := ns); omega) (keysO_lt (root := root) hv)
     simp only
     cases c1 : BS ns root with
     | true =>
      rw [c1] at hr
      exact A4 (tq_red root mn _ _ _ _) (A0 hcl (A0 hord (A0 hr A2)))
     | false =>
      rw [c1] at hr
      unfold blP at hbl
      unfold blkI
      cases c2 : blkT ns (Cp ns 64 root) with
      | none =>
       rw [c2] at hbl
       exact A4 (tq_bl root mn _ _ _ _ _) (A0 hcl (A0 hord (A0 hr (A0 hbl A2))))
      | some p =>
       rw [c2] at hbl
       have : decide (0 ≤ (p : Int)) = true := decide_eq_true (by omega)
       simp only [this, Bool.not_false, Bool.true_and]
       exact A4 (tq_ok root mn _ _ _ _ _ _ _) (A0 hcl (A0 hord (A0 hr (A0 hbl (A0 hwa (A0 hso A2))))))
   ·cases hs
  ·cases hs
 ·cases hs)
def symCD (C : Ctx) (O : Task → Res → Prop) (n : Nat) (f : FuncId) (args : List AV) (h : H) (sc : Ah) (keep : List Nat) (L : List Nat) : SM (AV × H) :=
 match C.P.funcs[f]? with
 | some fd => match fd.body with
  | some c => match symD C O n f false c { σ := args ++ List.replicate (fd.ntmps - args.length) B7, h := h } sc keep L with
   | some ((.normal, s), sc1, ob1) | some ((.ret, s), sc1, ob1) => match Cw C fd s with
    | some a => some ((a, s.h), sc1, ob1)
    | none => none
   | _ => none
  | none => none
 | none => none
theorem symCD_ev {C : Ctx} {O : Task → Res → Prop} {n : Nat} {f : FuncId} {args : List AV} {h h1 : H} {a : AV} {sc sc' : Ah} {keep : List Nat} {L : List Nat} {ob : List Prop} (e : symCD C O n f args h sc keep L = some ((a, h1), sc', ob)) (hp : AI ob) :
  Ev C O (.call f args h) (.val a h1) := by
 unfold symCD at e
 split at e
 ·rename_i fd hf
  split at e
  ·rename_i c hb
   split at e
   ·rename_i s sc1 ob1 e1
    split at e
    ·rename_i a1 hr
     simp only [Option.some.injEq, Prod.mk.injEq] at e
     obtain ⟨⟨rfl, rfl⟩, rfl, rfl⟩ := e
     exact .call _ _ _ fd c .normal s _ hf hb (B4 e1 hp) (.inl rfl) hr
    ·cases e
   ·rename_i s sc1 ob1 e1
    split at e
    ·rename_i a1 hr
     simp only [Option.some.injEq, Prod.mk.injEq] at e
     obtain ⟨⟨rfl, rfl⟩, rfl, rfl⟩ := e
     exact .call _ _ _ fd c .ret s _ hf hb (B4 e1 hp) (.inr rfl) hr
    ·cases e
   ·cases e
  ·cases e
 ·cases e
def Al (l : List Ky) : List AV := (Ai l).flatten.map .d
def kA (x : Ky) : AV := .agg [.d (du x.1), .d (di x.2)]
theorem BI (x : Ky) (l : List Ky) : Al (x :: l) = .d (du x.1) :: .d (di x.2) :: Al l := rfl
theorem kcells_len : ∀ l : List Ky, (Al l).length = 2 * l.length
 | [] => rfl
 | x :: l => by rw [BI]; simp only [List.length_cons, kcells_len l]; omega
theorem kcells_take : ∀ (l : List Ky) (k : Nat) (x : Ky), l[k]? = some x → (((Al l).drop (k * 2)).take 2) = [.d (du x.1), .d (di x.2)]
 | [], k, x, h => by simp at h
 | y :: l, 0, x, h => by
  simp only [List.getElem?_cons_zero, Option.some.injEq] at h
  subst h
  rw [BI]; rfl
 | y :: l, k + 1, x, h => by
  have := kcells_take l k x (by simpa using h)
  rw [BI, show (k + 1) * 2 = k * 2 + 1 + 1 from by omega, List.drop_succ_cons, List.drop_succ_cons]
  exact this
theorem kcells_set : ∀ (l : List Ky) (k : Nat) (y : Ky), k < l.length → ((Al l).set (k * 2) (.d (du y.1))).set (k * 2 + 1) (.d (di y.2)) = Al (l.set k y)
 | [], k, y, h => by simp at h
 | x :: l, 0, y, h => by rw [List.set_cons_zero, BI, BI]; rfl
 | x :: l, k + 1, y, h => by
  have := kcells_set l k y (by simpa using h)
  rw [List.set_cons_succ, BI, BI, show (k + 1) * 2 = k * 2 + 1 + 1 from by omega]
  simp only [List.set_cons_succ]
  rw [this]
theorem ldK {C : Ctx} (hC : C.P = Tryz.prog) {l : List Ky} {k : Nat} {x : Ky} (h : l[k]? = some x) : AE C 196 (Al l) (0 + k * 2) = some (kA x) := by
 have h1 : isAggT C 196 = some true := by unfold isAggT; rw [hC]; kernel_rfl
 have h2 : AR C 196 = some 2 := by unfold AR; rw [hC]; kernel_rfl
 have hk : k < l.length := (List.getElem?_eq_some_iff.1 h).1
 unfold AE
 rw [h1, h2]
 simp only [BQ]
 rw [if_pos (by rw [kcells_len]; omega), Nat.zero_add, kcells_take l k x h]
 rfl
theorem stK {C : Ctx} (hC : C.P = Tryz.prog) {l : List Ky} {k : Nat} (y : Ky) (h : k < l.length) : stoEq C 196 (Al l) (0 + k * 2) (kA y) (Al (l.set k y)) := by
 have h2 : AR C 196 = some 2 := by unfold AR; rw [hC]; kernel_rfl
 refine ⟨2, h2, rfl, by rw [kcells_len]; omega, rfl, ?_⟩
 rw [Nat.zero_add]
 exact (kcells_set l k y h).symm
noncomputable def Bx : Ctx := { Ad C0 221 cmpKS with wr := fun f t => f == 218 && t == 7 }
theorem hPSt : Aw Bx := (A7 BN (compare_sat.ctx rfl rfl) (by kernel_rfl) : Aw (Ad C0 221 cmpKS))
def sH (m : Int) (cs : List AV) : H := { objs := [(A1 190 2, 1, [.cells [.d (.v (.int .u64 m))] false]), (A1 218 7, 1, [.cells cs false])] }
def sD (n : Nat) : AV := .hs (A1 218 7) 0 0 n 2
def sF : AV := .fn (.fn (.func 220)) [] [.ptr (A1 190 2) 0 0]
def cmpT (m : Int) (cs : List AV) (x y : Ky) (r : Int) : Prop := Ev Bx Ab (.call 220 [kA x, kA y, .ptr (A1 190 2) 0 0] (sH m cs)) (.val (vi r) (sH m cs))
theorem cmp_call (m : Int) (cs : List AV) (x y : Ky) (r : Int) : symCD Bx Ab 60 220 [kA x, kA y, .ptr (A1 190 2) 0 0] (sH m cs) [(A1 220 9, .prim [A5 r])] [5] [A1 220 3, A1 220 4] =
  some ((vi r, sH m cs), [], [cmpKS [pu m, .agg (kD x), .agg (kD y)] = some [A5 r], true = true, hFree [A1 220 3, A1 220 4] { objs := [(A1 190 2, 1, [.cells [.d (.v (.int .u64 m))] false]), (A1 218 7, 1, [.cells cs false]), (A1 220 3, 1, [.cells [.d (du x.1), .d (di x.2)] false]), (A1 220 4, 1, [.cells [.d (du y.1), .d (di y.2)] false])] } = true, true = true]) := by kernel_rfl
theorem kcells_free (L : List Nat) : ∀ l : List Ky, AT L (Al l) = true
 | [] => rfl
 | x :: l => by rw [BI]; simp only [AT, BD, kcells_free L l]; rfl
theorem cmp_ev (m : Int) (l : List Ky) {x y : Ky} (hx : x.1 < 2 ^ 64) (hy : y.1 < 2 ^ 64) : cmpT m (Al l) x y (cmpK m x y) := by
 refine symCD_ev (cmp_call m (Al l) x y _) (A0 (cmpKS_at hx hy) (A0 rfl (A0 ?_ (A0 rfl A2))))
 have h1 : AT [A1 220 3, A1 220 4] (Al l) = true := kcells_free _ l
 simp only [A1, Nat.reduceMul, Nat.reduceAdd] at h1
 simp [hFree, objFree, AT, h1, BD, A1]
def swHd (m : Int) (cs : List AV) (n : Nat) (a b k i : Int) : St := { σ := Ap 38 [(0, sD n), (1, vi a), (2, vi b), (3, vi k), (10, vi i)], h := sH m cs }
def swOut (m : Int) (cs : List AV) : St := { σ := Ap 38 [], h := sH m cs }
theorem sw_exit (m a b k i : Int) (cs : List AV) (n : Nat) : sM Bx 241 0 (swHd m cs n a b k i) [(A1 241 13, .b false)] [] = some ((.exit 0, swOut m cs), [], [decide (i < k) = false]) := by kernel_rfl
theorem sw_step (m a b k i i' : Int) (cs cs1 cs2 : List AV) (n p q : Nat) (x y : Ky) (X : X) (st : St) : AY Bx Ab 60 (Lp 241 0 (swHd m cs n a b k i)) [(A1 241 13, .b true), (A1 241 19, .int p), (A1 241 23, .int q), (A1 241 27, .int q), (A1 241 28, .idx q), (A1 241 29, .ld (kA y)), (A1 241 33, .int p), (A1 241 34, .idx p), (A1 241 35, .ld (kA x)), (A1 241 36, .idx p), (A1 241 8000, .sto cs1), (A1 241 37, .idx q), (A1 241 8000, .sto cs2), (A1 241 15, .int i'), (A1 241 8001, .loop [0, 1, 2, 3, 10] X st)] =
  some (.code X st, [], [decide (i < k) = true, IntKind.wrap .i64 (a + i) = p, IntKind.wrap .i64 (b + i) = q, IntKind.wrap .i64 (b + i) = q, (q : Int) = q ∧ q < n, AE Bx 196 cs (0 + q * 2) = some (kA y), IntKind.wrap .i64 (a + i) = p, (p : Int) = p ∧ p < n, AE Bx 196 cs (0 + p * 2) = some (kA x), (p : Int) = p ∧ p < n, stoEq Bx 196 cs (0 + p * 2) (kA y) cs1, (q : Int) = q ∧ q < n, stoEq Bx 196 cs1 (0 + q * 2) (kA x) cs2, IntKind.wrap .i64 (i + 1) = i', Ev Bx Ab (Lp 241 0 (swHd m cs2 n a b k i')) (.code X st)]) := by kernel_rfl
theorem sw_call (m a b k : Int) (cs cs' : List AV) (n : Nat) : AY Bx Ab 60 (.call 241 [sD n, vi a, vi b, vi k, sF] (sH m cs)) [(A1 241 8001, .loop [0, 1, 2, 3, 10] (.exit 0) (swOut m cs'))] = some (.val (.d (.v (.tuple #[]))) (sH m cs'), [], [Ev Bx Ab (Lp 241 0 (swHd m cs n a b k 0)) (.code (.exit 0) (swOut m cs'))]) := by kernel_rfl
def Ci : AV := .d (.v (.tuple #[]))
theorem Cb {n : Int} {k : Nat} (h : n = k) (hk : k < 2 ^ 62) : IntKind.wrap .i64 n = k := by rw [Ch (by omega) (by omega)]; exact h
theorem sw_loop (m : Int) (a b k : Nat) (n : Nat) (hn : n < 2 ^ 30) (ha : a + k ≤ n) (hb : b + k ≤ n) : ∀ (d i : Nat) (l : List Ky), i + d = k → l.length = n →
  ∃ l', l'.Perm l ∧ Ev Bx Ab (Lp 241 0 (swHd m (Al l) n a b k i)) (.code (.exit 0) (swOut m (Al l')))
 | 0, i, l, h, hl => ⟨l, .refl _, Ac (sw_exit m a b k i _ n) (A0 (dge (by omega)) A2)⟩
 | d + 1, i, l, h, hl => by
  have hp : a + i < l.length := by omega
  have hq : b + i < l.length := by omega
  obtain ⟨l', hpm, he⟩ := sw_loop m a b k n hn ha hb d (i + 1) ((l.set (a + i) l[b + i]).set (b + i) l[a + i]) (by omega) (by simp [hl])
  refine ⟨l', hpm.trans (List.set_set_perm hp hq), Aa _ _ _ _ _ _ (sw_step m a b k i ((i + 1 : Nat) : Int) _ (Al (l.set (a + i) l[b + i])) (Al ((l.set (a + i) l[b + i]).set (b + i) l[a + i])) n (a + i) (b + i) l[a + i] l[b + i] _ _) ?_⟩
  have w1 : IntKind.wrap .i64 ((a : Int) + (i : Int)) = ((a + i : Nat) : Int) := Cb (by simp) (by omega)
  have w2 : IntKind.wrap .i64 ((b : Int) + (i : Int)) = ((b + i : Nat) : Int) := Cb (by simp) (by omega)
  exact A0 (dlt (by omega)) (A0 w1 (A0 w2 (A0 w2 (A0 ⟨rfl, by omega⟩ (A0 (ldK rfl (List.getElem?_eq_getElem hq)) (A0 w1 (A0 ⟨rfl, by omega⟩ (A0 (ldK rfl (List.getElem?_eq_getElem hp)) (A0 ⟨rfl, by omega⟩ (A0 (stK rfl _ hp) (A0 ⟨rfl, by omega⟩ (A0 (stK rfl _ (by simpa using hq)) (A0 (Ag (by omega)) (A0 he A2))))))))))))))
theorem sw_ev (m : Int) (l : List Ky) (a b k : Nat) (hn : l.length < 2 ^ 30) (ha : a + k ≤ l.length) (hb : b + k ≤ l.length) :
  ∃ l', l'.Perm l ∧ Ev Bx Ab (.call 241 [sD l.length, vi a, vi b, vi k, sF] (sH m (Al l))) (.val Ci (sH m (Al l'))) := by
 obtain ⟨l', hpm, he⟩ := sw_loop m a b k l.length hn ha hb k 0 l (by omega) rfl
 exact ⟨l', hpm, Aa _ _ _ _ _ _ (sw_call m a b k _ _ _) (A0 he A2)⟩
def roHd (m : Int) (cs : List AV) (n : Nat) (k i j : Int) : St := { σ := Ap 58 [(0, sD n), (2, vi k), (4, sF), (10, vi i), (11, vi j)], h := sH m cs }
def roOut (m : Int) (cs : List AV) (n : Nat) (k i : Int) : St := { σ := Ap 58 [(0, sD n), (2, vi k), (4, sF), (10, vi i)], h := sH m cs }
def swT (m : Int) (cs cs' : List AV) (n : Nat) (a b k : Int) : Prop := Ev Bx Ab (.call 241 [sD n, vi a, vi b, vi k, sF] (sH m cs)) (.val Ci (sH m cs'))
theorem ro_exit (m k i j : Int) (cs : List AV) (n : Nat) : sM Bx 240 0 (roHd m cs n k i j) [(A1 240 20, .b false)] [0, 2, 4, 10] = some ((.exit 0, roOut m cs n k i), [], [(i != j) = false]) := by kernel_rfl
theorem ro_gt (m k i j i' p : Int) (cs cs' : List AV) (n : Nat) (X : X) (st : St) : AY Bx Ab 60 (Lp 240 0 (roHd m cs n k i j)) [(A1 240 20, .b true), (A1 240 23, .b true), (A1 240 27, .int p), (A1 240 31, .call Ci (sH m cs')), (A1 240 34, .int i'), (A1 240 8001, .loop [0, 2, 4, 10, 11] X st)] =
  some (.code X st, [], [(i != j) = true, decide (i > j) = true, IntKind.wrap .i64 (k - i) = p, swT m cs cs' n p k j, IntKind.wrap .i64 (i - j) = i', Ev Bx Ab (Lp 240 0 (roHd m cs' n k i' j)) (.code X st)]) := by kernel_rfl
theorem ro_lt (m k i j j' p q0 q : Int) (cs cs' : List AV) (n : Nat) (X : X) (st : St) : AY Bx Ab 60 (Lp 240 0 (roHd m cs n k i j)) [(A1 240 20, .b true), (A1 240 23, .b false), (A1 240 38, .int p), (A1 240 41, .int q0), (A1 240 43, .int q), (A1 240 46, .call Ci (sH m cs')), (A1 240 49, .int j'), (A1 240 8001, .loop [0, 2, 4, 10, 11] X st)] =
  some (.code X st, [], [(i != j) = true, decide (i > j) = false, IntKind.wrap .i64 (k - i) = p, IntKind.wrap .i64 (k + j) = q0, IntKind.wrap .i64 (q0 - i) = q, swT m cs cs' n p q i, IntKind.wrap .i64 (j - i) = j', Ev Bx Ab (Lp 240 0 (roHd m cs' n k i j')) (.code X st)]) := by kernel_rfl
theorem ro_call (m a k b i j i1 p : Int) (cs cs1 cs2 : List AV) (n : Nat) : AY Bx Ab 60 (.call 240 [sD n, vi a, vi k, vi b, sF] (sH m cs)) [(A1 240 14, .int i), (A1 240 17, .int j), (A1 240 8001, .loop [0, 2, 4, 10, 11] (.exit 0) (roOut m cs1 n k i1)), (A1 240 53, .int p), (A1 240 57, .call Ci (sH m cs2))] =
  some (.val Ci (sH m cs2), [], [IntKind.wrap .i64 (k - a) = i, IntKind.wrap .i64 (b - k) = j, Ev Bx Ab (Lp 240 0 (roHd m cs n k i j)) (.code (.exit 0) (roOut m cs1 n k i1)), IntKind.wrap .i64 (k - i1) = p, swT m cs1 cs2 n p k i1]) := by kernel_rfl
theorem ro_loop (m : Int) (k n : Nat) (hn : n < 2 ^ 30) : ∀ (d i j : Nat) (l : List Ky), i + j ≤ d → 1 ≤ i → 1 ≤ j → i ≤ k → k + j ≤ n → l.length = n →
  ∃ (l' : List Ky) (i1 : Nat), l'.Perm l ∧ 1 ≤ i1 ∧ i1 ≤ k ∧ k + i1 ≤ n ∧ Ev Bx Ab (Lp 240 0 (roHd m (Al l) n k i j)) (.code (.exit 0) (roOut m (Al l') n k i1))
 | 0, i, j, l, h, _, _, _, _, _ => by omega
 | d + 1, i, j, l, h, h1, h2, h3, h4, hl => by
  by_cases e : i = j
  ·subst e
   exact ⟨l, i, .refl _, h1, h3, h4, Ac (ro_exit m k i i _ n) (A0 (by simp) A2)⟩
  ·have ne : ((i : Int) != (j : Int)) = true := by
    have : ¬ (i : Int) = (j : Int) := by omega
    simpa using this
   by_cases g : j < i
   ·obtain ⟨l1, hp1, he1⟩ := sw_ev m l (k - i) k j (by omega) (by omega) (by omega)
    obtain ⟨l', i1, hp2, a1, a2, a3, he2⟩ := ro_loop m k n hn d (i - j) j l1 (by omega) (by omega) h2 (by omega) h4 (by rw [hp1.length_eq, hl])
    rw [hl] at he1
    refine ⟨l', i1, hp2.trans hp1, a1, a2, a3, Aa _ _ _ _ _ _ (ro_gt m k i j ((i - j : Nat) : Int) ((k - i : Nat) : Int) _ (Al l1) n _ _) ?_⟩
    exact A0 ne (A0 (decide_eq_true (by omega)) (A0 (Cb (by omega) (by omega)) (A0 he1 (A0 (Cb (by omega) (by omega)) (A0 he2 A2)))))
   ·obtain ⟨l1, hp1, he1⟩ := sw_ev m l (k - i) (k + j - i) i (by omega) (by omega) (by omega)
    obtain ⟨l', i1, hp2, a1, a2, a3, he2⟩ := ro_loop m k n hn d i (j - i) l1 (by omega) h1 (by omega) h3 (by omega) (by rw [hp1.length_eq, hl])
    rw [hl] at he1
    refine ⟨l', i1, hp2.trans hp1, a1, a2, a3, Aa _ _ _ _ _ _ (ro_lt m k i j ((j - i : Nat) : Int) ((k - i : Nat) : Int) ((k + j : Nat) : Int) ((k + j - i : Nat) : Int) _ (Al l1) n _ _) ?_⟩
    exact A0 ne (A0 (decide_eq_false (by omega)) (A0 (Cb (by omega) (by omega)) (A0 (Cb (by omega) (by omega)) (A0 (Cb (by omega) (by omega)) (A0 he1 (A0 (Cb (by omega) (by omega)) (A0 he2 A2)))))))
theorem ro_ev (m : Int) (l : List Ky) (a k b : Nat) (hn : l.length < 2 ^ 30) (h1 : a < k) (h2 : k < b) (h3 : b ≤ l.length) :
  ∃ l', l'.Perm l ∧ Ev Bx Ab (.call 240 [sD l.length, vi a, vi k, vi b, sF] (sH m (Al l))) (.val Ci (sH m (Al l'))) := by
 obtain ⟨l1, i1, hp1, a1, a2, a3, he1⟩ := ro_loop m k l.length hn (b - a) (k - a) (b - k) l (by omega) (by omega) (by omega) (by omega) (by omega) rfl
 obtain ⟨l2, hp2, he2⟩ := sw_ev m l1 (k - i1) k i1 (by rw [hp1.length_eq]; exact hn) (by rw [hp1.length_eq]; omega) (by rw [hp1.length_eq]; omega)
 rw [hp1.length_eq] at he2
 exact ⟨l2, hp2.trans hp1, Aa _ _ _ _ _ _ (ro_call m a k b ((k - a : Nat) : Int) ((b - k : Nat) : Int) i1 ((k - i1 : Nat) : Int) _ _ _ _) (A0 (Cb (by omega) (by omega)) (A0 (Cb (by omega) (by omega)) (A0 he1 (A0 (Cb (by omega) (by omega)) (A0 he2 A2)))))⟩
def isO (m : Int) (cs : List AV) (n : Nat) (a b i : Int) : St := { σ := Ap 53 [(0, sD n), (1, vi a), (2, vi b), (3, sF), (8, vi i)], h := sH m cs }
def isI (m : Int) (cs : List AV) (n : Nat) (a b i j : Int) : St := { σ := Ap 53 [(0, sD n), (1, vi a), (2, vi b), (3, sF), (8, vi i), (9, vi j)], h := sH m cs }
def isEnd (m : Int) (cs : List AV) : St := { σ := Ap 53 [], h := sH m cs }
theorem ii_a (m a b i j : Int) (cs : List AV) (n : Nat) : sM Bx 237 1 (isI m cs n a b i j) [(A1 237 20, .b false)] [0, 1, 2, 3, 8] = some ((.exit 2, isO m cs n a b i), [], [decide (j > a) = false]) := by kernel_rfl
def iiS (j p : Nat) (x y : Ky) (r : Int) (h : H) (l : Ah) : Ah := (A1 237 20, .b true) :: (A1 237 25, .idx j) :: (A1 237 26, .ld (kA x)) :: (A1 237 29, .int p) :: (A1 237 30, .idx p) :: (A1 237 31, .ld (kA y)) :: (A1 237 32, .call (vi r) h) :: l
def iiOb (m a : Int) (cs : List AV) (n j p : Nat) (x y : Ky) (r : Int) (l : List Prop) : List Prop := (decide ((j : Int) > a) = true) :: ((j : Int) = j ∧ j < n) :: (AE Bx 196 cs (0 + j * 2) = some (kA x)) :: (IntKind.wrap .i64 ((j : Int) - 1) = p) :: ((p : Int) = p ∧ p < n) :: (AE Bx 196 cs (0 + p * 2) = some (kA y)) :: cmpT m cs x y r :: l
theorem ii_b (m a b i r : Int) (cs : List AV) (n j p : Nat) (x y : Ky) : sM Bx 237 1 (isI m cs n a b i j) (iiS j p x y r (sH m cs) [(A1 237 33, .b false)]) [0, 1, 2, 3, 8] = some ((.exit 2, isO m cs n a b i), [], iiOb m a cs n j p x y r [decide (r < 0) = false]) := by kernel_rfl
theorem ii_s (m a b i r : Int) (cs cs1 cs2 : List AV) (n j p : Nat) (x y : Ky) (X : X) (st : St) : AY Bx Ab 60 (Lp 237 1 (isI m cs n a b i j)) (iiS j p x y r (sH m cs) [(A1 237 33, .b true), (A1 237 41, .int p), (A1 237 44, .int p), (A1 237 45, .idx p), (A1 237 46, .ld (kA y)), (A1 237 49, .idx j), (A1 237 50, .ld (kA x)), (A1 237 51, .idx j), (A1 237 8000, .sto cs1), (A1 237 52, .idx p), (A1 237 8000, .sto cs2), (A1 237 36, .int p), (A1 237 8001, .loop [0, 1, 2, 3, 8, 9] X st)]) =
  some (.code X st, [], iiOb m a cs n j p x y r [decide (r < 0) = true, IntKind.wrap .i64 ((j : Int) - 1) = p, IntKind.wrap .i64 ((j : Int) - 1) = p, (p : Int) = p ∧ p < n, AE Bx 196 cs (0 + p * 2) = some (kA y), (j : Int) = j ∧ j < n, AE Bx 196 cs (0 + j * 2) = some (kA x), (j : Int) = j ∧ j < n, stoEq Bx 196 cs (0 + j * 2) (kA y) cs1, (p : Int) = p ∧ p < n, stoEq Bx 196 cs1 (0 + p * 2) (kA x) cs2, IntKind.wrap .i64 ((j : Int) - 1) = p,
   Ev Bx Ab (Lp 237 1 (isI m cs2 n a b i p)) (.code X st)]) := by kernel_rfl
theorem io_exit (m a b i : Int) (cs : List AV) (n : Nat) : sM Bx 237 0 (isO m cs n a b i) [(A1 237 14, .b false)] [] = some ((.exit 0, isEnd m cs), [], [decide (i < b) = false]) := by kernel_rfl
theorem io_step (m a b i i' : Int) (cs cs' : List AV) (n : Nat) (X : X) (st : St) : AY Bx Ab 60 (Lp 237 0 (isO m cs n a b i)) [(A1 237 14, .b true), (A1 237 8001, .loop [0, 1, 2, 3, 8, 9] (.exit 2) (isO m cs' n a b i)), (A1 237 16, .int i'), (A1 237 8001, .loop [0, 1, 2, 3, 8] X st)] =
  some (.code X st, [], [decide (i < b) = true, Ev Bx Ab (Lp 237 1 (isI m cs n a b i i)) (.code (.exit 2) (isO m cs' n a b i)), IntKind.wrap .i64 (i + 1) = i', Ev Bx Ab (Lp 237 0 (isO m cs' n a b i')) (.code X st)]) := by kernel_rfl
theorem is_call (m a b i : Int) (cs cs' : List AV) (n : Nat) : AY Bx Ab 60 (.call 237 [sD n, vi a, vi b, sF] (sH m cs)) [(A1 237 11, .int i), (A1 237 8001, .loop [0, 1, 2, 3, 8] (.exit 0) (isEnd m cs'))] =
  some (.val Ci (sH m cs'), [], [IntKind.wrap .i64 (a + 1) = i, Ev Bx Ab (Lp 237 0 (isO m cs n a b i)) (.code (.exit 0) (isEnd m cs'))]) := by kernel_rfl
def Cy (l : List Ky) : Prop := l.length < 2 ^ 30 ∧ ∀ k ∈ l, k.1 < 2 ^ 64
theorem Cy.perm {l l' : List Ky} (h : Cy l) (hp : l'.Perm l) : Cy l' := ⟨by rw [hp.length_eq]; exact h.1, fun k hk => h.2 k (hp.mem_iff.1 hk)⟩
theorem Cy.at {l : List Ky} (h : Cy l) {i : Nat} (hi : i < l.length) : (l[i]).1 < 2 ^ 64 := h.2 _ (List.getElem_mem hi)
theorem ii_loop (m : Int) (a b i n : Nat) (hi : i < n) : ∀ (j : Nat) (l : List Ky), j ≤ i → l.length = n → Cy l →
  ∃ l', l'.Perm l ∧ Ev Bx Ab (Lp 237 1 (isI m (Al l) n a b i j)) (.code (.exit 2) (isO m (Al l') n a b i))
 | 0, l, hj, hl, hs => ⟨l, .refl _, Ac (ii_a m a b i ((0 : Nat) : Int) _ n) (A0 (decide_eq_false (by omega)) A2)⟩
 | p + 1, l, hj, hl, hs => by
  by_cases g : a < p + 1
  ·have hp : p < l.length := by omega
   have hq : p + 1 < l.length := by omega
   have hc := cmp_ev m l (x := l[p + 1]) (y := l[p]) (hs.at hq) (hs.at hp)
   have w1 : IntKind.wrap .i64 (((p + 1 : Nat) : Int) - 1) = ((p : Nat) : Int) := Cb (by omega) (by have := hs.1; omega)
   have lp := ldK (C := Bx) rfl (List.getElem?_eq_getElem hp)
   have lq := ldK (C := Bx) rfl (List.getElem?_eq_getElem hq)
   have ob : ∀ {lp' : List Prop}, AI lp' → AI (iiOb m a (Al l) n (p + 1) p l[p + 1] l[p] (cmpK m l[p + 1] l[p]) lp') := fun h =>
    A0 (decide_eq_true (by omega)) (A0 ⟨rfl, by omega⟩ (A0 lq (A0 w1 (A0 ⟨rfl, by omega⟩ (A0 lp (A0 hc h))))))
   by_cases z : cmpK m l[p + 1] l[p] < 0
   ·have hpm := List.set_set_perm hq hp
    obtain ⟨l', hp2, he⟩ := ii_loop m a b i n hi p ((l.set (p + 1) l[p]).set p l[p + 1]) (by omega) (by simp [hl]) (hs.perm hpm)
    refine ⟨l', hp2.trans hpm, Aa _ _ _ _ _ _ (ii_s m a b i _ _ (Al (l.set (p + 1) l[p])) (Al ((l.set (p + 1) l[p]).set p l[p + 1])) n (p + 1) p l[p + 1] l[p] _ _) (ob ?_)⟩
    exact A0 (decide_eq_true z) (A0 w1 (A0 w1 (A0 ⟨rfl, by omega⟩ (A0 lp (A0 ⟨rfl, by omega⟩ (A0 lq (A0 ⟨rfl, by omega⟩ (A0 (stK rfl _ hq) (A0 ⟨rfl, by omega⟩ (A0 (stK rfl _ (by simpa using hp)) (A0 w1 (A0 he A2))))))))))))
   ·exact ⟨l, .refl _, Ac (ii_b m a b i _ _ n (p + 1) p l[p + 1] l[p]) (ob (A0 (decide_eq_false z) A2))⟩
  ·exact ⟨l, .refl _, Ac (ii_a m a b i ((p + 1 : Nat) : Int) _ n) (A0 (decide_eq_false (by omega)) A2)⟩
theorem io_loop (m : Int) (a b n : Nat) (hb : b ≤ n) : ∀ (d i : Nat) (l : List Ky), b ≤ i + d → l.length = n → Cy l →
  ∃ l', l'.Perm l ∧ Ev Bx Ab (Lp 237 0 (isO m (Al l) n a b i)) (.code (.exit 0) (isEnd m (Al l')))
 | 0, i, l, h, hl, hs => ⟨l, .refl _, Ac (io_exit m a b i _ n) (A0 (dge (by omega)) A2)⟩
 | d + 1, i, l, h, hl, hs => by
  by_cases g : i < b
  ·obtain ⟨l1, hp1, he1⟩ := ii_loop m a b i n (by omega) i l (Nat.le_refl _) hl hs
   obtain ⟨l2, hp2, he2⟩ := io_loop m a b n hb d (i + 1) l1 (by omega) (by rw [hp1.length_eq, hl]) (hs.perm hp1)
   exact ⟨l2, hp2.trans hp1, Aa _ _ _ _ _ _ (io_step m a b i ((i + 1 : Nat) : Int) _ _ n _ _) (A0 (dlt g) (A0 he1 (A0 (Cb (by omega) (by have := hs.1; omega)) (A0 he2 A2))))⟩
  ·exact ⟨l, .refl _, Ac (io_exit m a b i _ n) (A0 (dge (by omega)) A2)⟩
theorem is_ev (m : Int) (l : List Ky) (a b : Nat) (hs : Cy l) (ha : a < 2 ^ 30) (hb : b ≤ l.length) :
  ∃ l', l'.Perm l ∧ Ev Bx Ab (.call 237 [sD l.length, vi a, vi b, sF] (sH m (Al l))) (.val Ci (sH m (Al l'))) := by
 obtain ⟨l', hp, he⟩ := io_loop m a b l.length hb b (a + 1) l (by omega) rfl hs
 exact ⟨l', hp, Aa _ _ _ _ _ _ (is_call m a b ((a + 1 : Nat) : Int) _ _ _) (A0 (Cb (by omega) (by omega)) (A0 he A2))⟩
def seqAt : Code → Nat → Code
 | .seq a _, 0 => a
 | .seq _ b, k + 1 => seqAt b k
 | c, _ => c
def seqDrop : Nat → Code → Code
 | 0, c => c
 | k + 1, .seq _ b => seqDrop k b
 | _, c => c
noncomputable def bodyOf (f : FuncId) : Code := match Tryz.prog.funcs[f]? with
 | some fd => (fd.body).getD .skip
 | none => .skip
theorem call_unit {C : Ctx} {O : Task → Res → Prop} {f : FuncId} {args : List AV} {h h1 : H} {x : X} {σ : List AV} {N : Nat} (hC : C.P = Tryz.prog) (hN : ((Tryz.prog.funcs[f]?).map fun fd => (fd.ntmps, fd.results.toList)) = some (N, []))
  (hb : ((Tryz.prog.funcs[f]?).bind fun fd => fd.body) = some (bodyOf f)) (hx : x = .normal ∨ x = .ret)
  (he : Ev C O (.code f false (bodyOf f) { σ := args ++ List.replicate (N - args.length) B7, h := h }) (.code x { σ := σ, h := h1 })) : Ev C O (.call f args h) (.val Ci h1) := by
 cases hf : Tryz.prog.funcs[f]? with
 | none => rw [hf] at hN; cases hN
 | some fd =>
  rw [hf] at hN hb
  simp only [Option.map_some, Option.some.injEq, Prod.mk.injEq] at hN
  obtain ⟨rfl, hr⟩ := hN
  have hb' : fd.body = some (bodyOf f) := hb
  refine .call f args h fd (bodyOf f) x { σ := σ, h := h1 } Ci (by rw [hC]; exact hf) hb' he hx ?_
  unfold Cw
  rw [hr]
  rfl
def mS (l : List (Nat × AV)) (m : Int) (cs : List AV) : St := { σ := Ap 220 l, h := sH m cs }
def mB (n : Nat) (a k b : Int) : List (Nat × AV) := [(0, sD n), (1, vi a), (2, vi k), (3, vi b), (4, sF)]
def hOb (i j s h : Int) (l : List Prop) : List Prop := (IntKind.wrap .i64 (i + j) = s) :: (IntKind.wrap .u64 s = s) :: (Int.fdiv s (2 ^ min (Int.toNat 1) 64) = h) :: (IntKind.wrap .i64 h = h) :: l
theorem hOb_ok {i j : Nat} {l : List Prop} (h : i + j < 2 ^ 40) (hl : AI l) : AI (hOb i j ((i + j : Nat) : Int) (((i + j) / 2 : Nat) : Int) l) := by
 refine A0 (Cb (by omega) (by omega)) (A0 (B1 (by omega) (by omega)) (A0 ?_ (A0 (Cb rfl (by omega)) hl)))
 show Int.fdiv (((i + j : Nat)) : Int) 2 = _
 rw [show (2 : Int) = ((2 : Nat) : Int) from rfl, ← Int.ofNat_fdiv]
def swpOb (cs cs1 cs2 : List AV) (n p q : Nat) (x y : Ky) (l : List Prop) : List Prop := ((q : Int) = q ∧ q < n) :: (AE Bx 196 cs (0 + q * 2) = some (kA y)) :: ((p : Int) = p ∧ p < n) :: (AE Bx 196 cs (0 + p * 2) = some (kA x)) :: ((p : Int) = p ∧ p < n) :: stoEq Bx 196 cs (0 + p * 2) (kA y) cs1 :: ((q : Int) = q ∧ q < n) :: stoEq Bx 196 cs1 (0 + q * 2) (kA x) cs2 :: l
theorem swpOb_ok {l : List Ky} {n p q : Nat} {lp : List Prop} (hl : l.length = n) (hp : p < l.length) (hq : q < l.length) (h : AI lp) : AI (swpOb (Al l) (Al (l.set p l[q])) (Al ((l.set p l[q]).set q l[p])) n p q l[p] l[q] lp) :=
 A0 ⟨rfl, by omega⟩ (A0 (ldK rfl (List.getElem?_eq_getElem hq)) (A0 ⟨rfl, by omega⟩ (A0 (ldK rfl (List.getElem?_eq_getElem hp)) (A0 ⟨rfl, by omega⟩ (A0 (stK rfl _ hp) (A0 ⟨rfl, by omega⟩ (A0 (stK rfl _ (by simpa using hq)) h)))))))
def cpOb (m : Int) (cs : List AV) (n p q : Nat) (x y : Ky) (r : Int) (l : List Prop) : List Prop := ((p : Int) = p ∧ p < n) :: (AE Bx 196 cs (0 + p * 2) = some (kA x)) :: ((q : Int) = q ∧ q < n) :: (AE Bx 196 cs (0 + q * 2) = some (kA y)) :: cmpT m cs x y r :: l
theorem cpOb_ok {m : Int} {l : List Ky} {n p q : Nat} {lp : List Prop} (hl : l.length = n) (hs : Cy l) (hp : p < l.length) (hq : q < l.length) (h : AI lp) : AI (cpOb m (Al l) n p q l[p] l[q] (cmpK m l[p] l[q]) lp) :=
 A0 ⟨rfl, by omega⟩ (A0 (ldK rfl (List.getElem?_eq_getElem hp)) (A0 ⟨rfl, by omega⟩ (A0 (ldK rfl (List.getElem?_eq_getElem hq)) (A0 (cmp_ev m l (hs.at hp) (hs.at hq)) h))))
theorem m0_exit (m i j : Int) (a : Nat) (cs : List AV) (n : Nat) : sM Bx 238 0 (mS ([(0, sD n), (1, vi (a : Nat)), (4, sF)] ++ [(10, vi i), (11, vi j)]) m cs) [(A1 238 33, .b false)] [0, 1, 10] = some ((.exit 0, mS ([(0, sD n), (1, vi (a : Nat))] ++ [(10, vi i)]) m cs), [], [decide (i < j) = false]) := by kernel_rfl
theorem m0_lo (m i j s r i' : Int) (a : Nat) (h : Nat) (cs : List AV) (n : Nat) (x y : Ky) (X : X) (st : St) : AY Bx Ab 60 (Lp 238 0 (mS ([(0, sD n), (1, vi (a : Nat)), (4, sF)] ++ [(10, vi i), (11, vi j)]) m cs)) [(A1 238 33, .b true), (A1 238 36, .int s), (A1 238 37, .int s), (A1 238 38, .int (h : Nat)), (A1 238 39, .int (h : Nat)), (A1 238 43, .idx h), (A1 238 44, .ld (kA x)), (A1 238 47, .idx a), (A1 238 48, .ld (kA y)), (A1 238 49, .call (vi r) (sH m cs)), (A1 238 50, .b true), (A1 238 52, .int i'), (A1 238 8001, .loop [0, 1, 4, 10, 11] X st)] =
  some (.code X st, [], (decide (i < j) = true) :: hOb i j s h (cpOb m cs n h a x y r [decide (r < 0) = true, IntKind.wrap .i64 ((h : Int) + 1) = i', Ev Bx Ab (Lp 238 0 (mS ([(0, sD n), (1, vi (a : Nat)), (4, sF)] ++ [(10, vi i'), (11, vi j)]) m cs)) (.code X st)])) := by kernel_rfl
theorem m0_hi (m i j s r : Int) (a : Nat) (h : Nat) (cs : List AV) (n : Nat) (x y : Ky) (X : X) (st : St) : AY Bx Ab 60 (Lp 238 0 (mS ([(0, sD n), (1, vi (a : Nat)), (4, sF)] ++ [(10, vi i), (11, vi j)]) m cs)) [(A1 238 33, .b true), (A1 238 36, .int s), (A1 238 37, .int s), (A1 238 38, .int (h : Nat)), (A1 238 39, .int (h : Nat)), (A1 238 43, .idx h), (A1 238 44, .ld (kA x)), (A1 238 47, .idx a), (A1 238 48, .ld (kA y)), (A1 238 49, .call (vi r) (sH m cs)), (A1 238 50, .b false), (A1 238 8001, .loop [0, 1, 4, 10, 11] X st)] =
  some (.code X st, [], (decide (i < j) = true) :: hOb i j s h (cpOb m cs n h a x y r [decide (r < 0) = false, Ev Bx Ab (Lp 238 0 (mS ([(0, sD n), (1, vi (a : Nat)), (4, sF)] ++ [(10, vi i), (11, vi (h : Nat))]) m cs)) (.code X st)])) := by kernel_rfl
theorem m2_exit (m i j : Int) (k : Nat) (cs : List AV) (n : Nat) : sM Bx 238 2 (mS ([(0, sD n), (2, vi (k : Nat)), (4, sF)] ++ [(14, vi i), (15, vi j)]) m cs) [(A1 238 85, .b false)] [0, 2, 14] = some ((.exit 4, mS ([(0, sD n), (2, vi (k : Nat))] ++ [(14, vi i)]) m cs), [], [decide (i < j) = false]) := by kernel_rfl
theorem m2_lo (m i j s r i' : Int) (k : Nat) (h : Nat) (cs : List AV) (n : Nat) (x y : Ky) (X : X) (st : St) : AY Bx Ab 60 (Lp 238 2 (mS ([(0, sD n), (2, vi (k : Nat)), (4, sF)] ++ [(14, vi i), (15, vi j)]) m cs)) [(A1 238 85, .b true), (A1 238 88, .int s), (A1 238 89, .int s), (A1 238 90, .int (h : Nat)), (A1 238 91, .int (h : Nat)), (A1 238 95, .idx k), (A1 238 96, .ld (kA x)), (A1 238 99, .idx h), (A1 238 100, .ld (kA y)), (A1 238 101, .call (vi r) (sH m cs)), (A1 238 102, .b false), (A1 238 105, .int i'), (A1 238 8001, .loop [0, 2, 4, 14, 15] X st)] =
  some (.code X st, [], (decide (i < j) = true) :: hOb i j s h (cpOb m cs n k h x y r [decide (r < 0) = false, IntKind.wrap .i64 ((h : Int) + 1) = i', Ev Bx Ab (Lp 238 2 (mS ([(0, sD n), (2, vi (k : Nat)), (4, sF)] ++ [(14, vi i'), (15, vi j)]) m cs)) (.code X st)])) := by kernel_rfl
theorem m2_hi (m i j s r : Int) (k : Nat) (h : Nat) (cs : List AV) (n : Nat) (x y : Ky) (X : X) (st : St) : AY Bx Ab 60 (Lp 238 2 (mS ([(0, sD n), (2, vi (k : Nat)), (4, sF)] ++ [(14, vi i), (15, vi j)]) m cs)) [(A1 238 85, .b true), (A1 238 88, .int s), (A1 238 89, .int s), (A1 238 90, .int (h : Nat)), (A1 238 91, .int (h : Nat)), (A1 238 95, .idx k), (A1 238 96, .ld (kA x)), (A1 238 99, .idx h), (A1 238 100, .ld (kA y)), (A1 238 101, .call (vi r) (sH m cs)), (A1 238 102, .b true), (A1 238 8001, .loop [0, 2, 4, 14, 15] X st)] =
  some (.code X st, [], (decide (i < j) = true) :: hOb i j s h (cpOb m cs n k h x y r [decide (r < 0) = true, Ev Bx Ab (Lp 238 2 (mS ([(0, sD n), (2, vi (k : Nat)), (4, sF)] ++ [(14, vi i), (15, vi (h : Nat))]) m cs)) (.code X st)])) := by kernel_rfl
theorem m4_exit (m i j : Int) (a k b mid n2 p c : Int) (pc : Nat) (cs : List AV) (n : Nat) : sM Bx 238 4 (mS (mB n a k b ++ [(18, vi mid), (19, vi n2), (22, vi p)] ++ [(20, vi i), (21, vi j)]) m cs) [(A1 238 151, .b false)] [0, 1, 2, 3, 4, 18, 19, 20] = some ((.exit 8, mS (mB n a k b ++ [(18, vi mid), (19, vi n2)] ++ [(20, vi i)]) m cs), [], [decide (i < j) = false]) := by kernel_rfl
theorem m4_lo (m i j s r i' : Int) (a k b mid n2 p c : Int) (pc : Nat) (h : Nat) (cs : List AV) (n : Nat) (x y : Ky) (X : X) (st : St) : AY Bx Ab 60 (Lp 238 4 (mS (mB n a k b ++ [(18, vi mid), (19, vi n2), (22, vi p)] ++ [(20, vi i), (21, vi j)]) m cs)) [(A1 238 151, .b true), (A1 238 154, .int s), (A1 238 155, .int s), (A1 238 156, .int (h : Nat)), (A1 238 157, .int (h : Nat)), (A1 238 162, .int (pc : Nat)), (A1 238 163, .idx pc), (A1 238 164, .ld (kA x)), (A1 238 167, .idx h), (A1 238 168, .ld (kA y)), (A1 238 169, .call (vi r) (sH m cs)), (A1 238 170, .b false), (A1 238 173, .int i'), (A1 238 8001, .loop [0, 1, 2, 3, 4, 18, 19, 20, 21, 22] X st)] =
  some (.code X st, [], (decide (i < j) = true) :: hOb i j s h ((IntKind.wrap .i64 (p - (h : Int)) = ((pc : Nat) : Int)) :: cpOb m cs n pc h x y r [decide (r < 0) = false, IntKind.wrap .i64 ((h : Int) + 1) = i', Ev Bx Ab (Lp 238 4 (mS (mB n a k b ++ [(18, vi mid), (19, vi n2), (22, vi p)] ++ [(20, vi i'), (21, vi j)]) m cs)) (.code X st)])) := by kernel_rfl
theorem m4_hi (m i j s r : Int) (a k b mid n2 p c : Int) (pc : Nat) (h : Nat) (cs : List AV) (n : Nat) (x y : Ky) (X : X) (st : St) : AY Bx Ab 60 (Lp 238 4 (mS (mB n a k b ++ [(18, vi mid), (19, vi n2), (22, vi p)] ++ [(20, vi i), (21, vi j)]) m cs)) [(A1 238 151, .b true), (A1 238 154, .int s), (A1 238 155, .int s), (A1 238 156, .int (h : Nat)), (A1 238 157, .int (h : Nat)), (A1 238 162, .int (pc : Nat)), (A1 238 163, .idx pc), (A1 238 164, .ld (kA x)), (A1 238 167, .idx h), (A1 238 168, .ld (kA y)), (A1 238 169, .call (vi r) (sH m cs)), (A1 238 170, .b true), (A1 238 8001, .loop [0, 1, 2, 3, 4, 18, 19, 20, 21, 22] X st)] =
  some (.code X st, [], (decide (i < j) = true) :: hOb i j s h ((IntKind.wrap .i64 (p - (h : Int)) = ((pc : Nat) : Int)) :: cpOb m cs n pc h x y r [decide (r < 0) = true, Ev Bx Ab (Lp 238 4 (mS (mB n a k b ++ [(18, vi mid), (19, vi n2), (22, vi p)] ++ [(20, vi i), (21, vi (h : Nat))]) m cs)) (.code X st)])) := by kernel_rfl
theorem m1_exit (m w v e : Int) (cs : List AV) (n : Nat) : sM Bx 238 1 (mS [(0, sD n), (10, vi w), (13, vi v)] m cs) [(A1 238 57, .int e), (A1 238 58, .b false)] [] = some ((.exit 2, mS [] m cs), [], [IntKind.wrap .i64 (w - 1) = e, decide (v < e) = false]) := by kernel_rfl
theorem m1_step (m w e : Int) (p q : Nat) (cs cs1 cs2 : List AV) (n : Nat) (x y : Ky) (X : X) (st : St) : AY Bx Ab 60 (Lp 238 1 (mS [(0, sD n), (10, vi w), (13, vi (p : Nat))] m cs)) [(A1 238 57, .int e), (A1 238 58, .b true), (A1 238 65, .int (q : Nat)), (A1 238 68, .int (q : Nat)), (A1 238 69, .idx q), (A1 238 70, .ld (kA y)), (A1 238 73, .idx p), (A1 238 74, .ld (kA x)), (A1 238 75, .idx p), (A1 238 8000, .sto cs1), (A1 238 76, .idx q), (A1 238 8000, .sto cs2), (A1 238 60, .int (q : Nat)), (A1 238 8001, .loop [0, 10, 13] X st)] =
  some (.code X st, [], [IntKind.wrap .i64 (w - 1) = e, decide ((p : Int) < e) = true, IntKind.wrap .i64 ((p : Int) + 1) = (q : Nat), IntKind.wrap .i64 ((p : Int) + 1) = (q : Nat)] ++ swpOb cs cs1 cs2 n p q x y [IntKind.wrap .i64 ((p : Int) + 1) = (q : Nat), Ev Bx Ab (Lp 238 1 (mS [(0, sD n), (10, vi w), (13, vi (q : Nat))] m cs2)) (.code X st)]) := by kernel_rfl
theorem m3_exit (m w v : Int) (cs : List AV) (n : Nat) : sM Bx 238 3 (mS [(0, sD n), (14, vi w), (17, vi v)] m cs) [(A1 238 110, .b false)] [] = some ((.exit 6, mS [] m cs), [], [decide (v > w) = false]) := by kernel_rfl
theorem m3_step (m w : Int) (p q : Nat) (cs cs1 cs2 : List AV) (n : Nat) (x y : Ky) (X : X) (st : St) : AY Bx Ab 60 (Lp 238 3 (mS [(0, sD n), (14, vi w), (17, vi (p : Nat))] m cs)) [(A1 238 110, .b true), (A1 238 117, .int (q : Nat)), (A1 238 120, .int (q : Nat)), (A1 238 121, .idx q), (A1 238 122, .ld (kA y)), (A1 238 125, .idx p), (A1 238 126, .ld (kA x)), (A1 238 127, .idx p), (A1 238 8000, .sto cs1), (A1 238 128, .idx q), (A1 238 8000, .sto cs2), (A1 238 112, .int (q : Nat)), (A1 238 8001, .loop [0, 14, 17] X st)] =
  some (.code X st, [], [decide ((p : Int) > w) = true, IntKind.wrap .i64 ((p : Int) - 1) = (q : Nat), IntKind.wrap .i64 ((p : Int) - 1) = (q : Nat)] ++ swpOb cs cs1 cs2 n p q x y [IntKind.wrap .i64 ((p : Int) - 1) = (q : Nat), Ev Bx Ab (Lp 238 3 (mS [(0, sD n), (14, vi w), (17, vi (q : Nat))] m cs2)) (.code X st)]) := by kernel_rfl
theorem m0_loop (m : Int) (a n : Nat) (l : List Ky) (hl : l.length = n) (hs : Cy l) (ha : a < n) : ∀ (d i j : Nat), i + d ≥ j → i ≤ j → j ≤ n →
  ∃ i1 : Nat, i ≤ i1 ∧ i1 ≤ j ∧ Ev Bx Ab (Lp 238 0 (mS ([(0, sD n), (1, vi (a : Nat)), (4, sF)] ++ [(10, vi i), (11, vi j)]) m (Al l))) (.code (.exit 0) (mS ([(0, sD n), (1, vi (a : Nat))] ++ [(10, vi i1)]) m (Al l)))
 | 0, i, j, h, h1, h2 => ⟨i, Nat.le_refl _, by omega, Ac (m0_exit m i j a _ n) (A0 (dge (by omega)) A2)⟩
 | d + 1, i, j, h, h1, h2 => by
  by_cases g : i < j
  ·have hh : (i + j) / 2 < l.length := by omega
   have h30 := hs.1
   by_cases z : cmpK m l[(i + j) / 2] l[a] < 0
   ·obtain ⟨i1, a1, a2, he⟩ := m0_loop m a n l hl hs ha d ((i + j) / 2 + 1) j (by omega) (by omega) h2
    exact ⟨i1, by omega, a2, Aa _ _ _ _ _ _ (m0_lo m i j ((i + j : Nat) : Int) _ (((i + j) / 2 + 1 : Nat) : Int) a ((i + j) / 2) _ n _ _ _ _) (A0 (dlt g) (hOb_ok (by omega) (cpOb_ok hl hs hh (by omega) (A0 (decide_eq_true z) (A0 (Cb (by omega) (by omega)) (A0 he A2))))))⟩
   ·obtain ⟨i1, a1, a2, he⟩ := m0_loop m a n l hl hs ha d i ((i + j) / 2) (by omega) (by omega) (by omega)
    exact ⟨i1, a1, by omega, Aa _ _ _ _ _ _ (m0_hi m i j ((i + j : Nat) : Int) _ a ((i + j) / 2) _ n _ _ _ _) (A0 (dlt g) (hOb_ok (by omega) (cpOb_ok hl hs hh (by omega) (A0 (decide_eq_false z) (A0 he A2)))))⟩
  ·exact ⟨i, Nat.le_refl _, by omega, Ac (m0_exit m i j a _ n) (A0 (dge (by omega)) A2)⟩
theorem m2_loop (m : Int) (k n : Nat) (l : List Ky) (hl : l.length = n) (hs : Cy l) (hk : k < n) : ∀ (d i j : Nat), i + d ≥ j → i ≤ j → j ≤ n →
  ∃ i1 : Nat, i ≤ i1 ∧ i1 ≤ j ∧ Ev Bx Ab (Lp 238 2 (mS ([(0, sD n), (2, vi (k : Nat)), (4, sF)] ++ [(14, vi i), (15, vi j)]) m (Al l))) (.code (.exit 4) (mS ([(0, sD n), (2, vi (k : Nat))] ++ [(14, vi i1)]) m (Al l)))
 | 0, i, j, h, h1, h2 => ⟨i, Nat.le_refl _, by omega, Ac (m2_exit m i j k _ n) (A0 (dge (by omega)) A2)⟩
 | d + 1, i, j, h, h1, h2 => by
  by_cases g : i < j
  ·have hh : (i + j) / 2 < l.length := by omega
   have h30 := hs.1
   by_cases z : cmpK m l[k] l[(i + j) / 2] < 0
   ·obtain ⟨i1, a1, a2, he⟩ := m2_loop m k n l hl hs hk d i ((i + j) / 2) (by omega) (by omega) (by omega)
    exact ⟨i1, a1, by omega, Aa _ _ _ _ _ _ (m2_hi m i j ((i + j : Nat) : Int) _ k ((i + j) / 2) _ n _ _ _ _) (A0 (dlt g) (hOb_ok (by omega) (cpOb_ok hl hs (by omega) hh (A0 (decide_eq_true z) (A0 he A2)))))⟩
   ·obtain ⟨i1, a1, a2, he⟩ := m2_loop m k n l hl hs hk d ((i + j) / 2 + 1) j (by omega) (by omega) h2
    exact ⟨i1, by omega, a2, Aa _ _ _ _ _ _ (m2_lo m i j ((i + j : Nat) : Int) _ (((i + j) / 2 + 1 : Nat) : Int) k ((i + j) / 2) _ n _ _ _ _) (A0 (dlt g) (hOb_ok (by omega) (cpOb_ok hl hs (by omega) hh (A0 (decide_eq_false z) (A0 (Cb (by omega) (by omega)) (A0 he A2))))))⟩
  ·exact ⟨i, Nat.le_refl _, by omega, Ac (m2_exit m i j k _ n) (A0 (dge (by omega)) A2)⟩
theorem m4_loop (m : Int) (a k b mid n2 n : Nat) (l : List Ky) (hl : l.length = n) (hs : Cy l) (s0 r0 : Nat) (hr0 : r0 ≤ n) (hn2 : r0 ≤ n2) (hlo : n2 ≤ s0 + n) : ∀ (d i j : Nat), i + d ≥ j → s0 ≤ i → i ≤ j → j ≤ r0 →
  ∃ i1 : Nat, i ≤ i1 ∧ i1 ≤ j ∧ Ev Bx Ab (Lp 238 4 (mS ((mB n a k b ++ [(18, vi mid), (19, vi n2), (22, vi ((n2 - 1 : Nat) : Int))]) ++ [(20, vi i), (21, vi j)]) m (Al l))) (.code (.exit 8) (mS ((mB n a k b ++ [(18, vi mid), (19, vi n2)]) ++ [(20, vi i1)]) m (Al l)))
 | 0, i, j, h, h0, h1, h2 => ⟨i, Nat.le_refl _, by omega, Ac (m4_exit m i j a k b mid n2 _ 0 0 _ n) (A0 (dge (by omega)) A2)⟩
 | d + 1, i, j, h, h0, h1, h2 => by
  by_cases g : i < j
  ·have hh : (i + j) / 2 < l.length := by omega
   have hp : n2 - 1 - (i + j) / 2 < l.length := by omega
   have h30 := hs.1
   have hw : IntKind.wrap .i64 (((n2 - 1 : Nat) : Int) - (((i + j) / 2 : Nat) : Int)) = ((n2 - 1 - (i + j) / 2 : Nat) : Int) := Cb (by omega) (by omega)
   by_cases z : cmpK m l[n2 - 1 - (i + j) / 2] l[(i + j) / 2] < 0
   ·obtain ⟨i1, a1, a2, he⟩ := m4_loop m a k b mid n2 n l hl hs s0 r0 hr0 hn2 hlo d i ((i + j) / 2) (by omega) h0 (by omega) (by omega)
    exact ⟨i1, a1, by omega, Aa _ _ _ _ _ _ (m4_hi m i j ((i + j : Nat) : Int) _ a k b mid n2 _ 0 (n2 - 1 - (i + j) / 2) ((i + j) / 2) _ n _ _ _ _) (A0 (dlt g) (hOb_ok (by omega) (A0 hw (cpOb_ok hl hs hp hh (A0 (decide_eq_true z) (A0 he A2))))))⟩
   ·obtain ⟨i1, a1, a2, he⟩ := m4_loop m a k b mid n2 n l hl hs s0 r0 hr0 hn2 hlo d ((i + j) / 2 + 1) j (by omega) (by omega) (by omega) h2
    exact ⟨i1, by omega, a2, Aa _ _ _ _ _ _ (m4_lo m i j ((i + j : Nat) : Int) _ (((i + j) / 2 + 1 : Nat) : Int) a k b mid n2 _ 0 (n2 - 1 - (i + j) / 2) ((i + j) / 2) _ n _ _ _ _) (A0 (dlt g) (hOb_ok (by omega) (A0 hw (cpOb_ok hl hs hp hh (A0 (decide_eq_false z) (A0 (Cb (by omega) (by omega)) (A0 he A2)))))))⟩
  ·exact ⟨i, Nat.le_refl _, by omega, Ac (m4_exit m i j a k b mid n2 _ 0 0 _ n) (A0 (dge (by omega)) A2)⟩
theorem m1_loop (m : Int) (w n : Nat) (hw : w ≤ n) (hw1 : 1 ≤ w) (hn : n < 2 ^ 30) : ∀ (d v : Nat) (l : List Ky), w ≤ v + d → l.length = n →
  ∃ l', l'.Perm l ∧ Ev Bx Ab (Lp 238 1 (mS [(0, sD n), (10, vi w), (13, vi v)] m (Al l))) (.code (.exit 2) (mS [] m (Al l')))
 | 0, v, l, h, hl => ⟨l, .refl _, Ac (m1_exit m w v ((w - 1 : Nat) : Int) _ n) (A0 (Cb (by omega) (by omega)) (A0 (dge (by omega)) A2))⟩
 | d + 1, v, l, h, hl => by
  by_cases g : v < w - 1
  ·have hp : v < l.length := by omega
   have hq : v + 1 < l.length := by omega
   obtain ⟨l', hp2, he⟩ := m1_loop m w n hw hw1 hn d (v + 1) ((l.set v l[v + 1]).set (v + 1) l[v]) (by omega) (by simp [hl])
   have hw' : IntKind.wrap .i64 ((v : Int) + 1) = ((v + 1 : Nat) : Int) := Cb (by omega) (by omega)
   exact ⟨l', hp2.trans (List.set_set_perm hp hq), Aa _ _ _ _ _ _ (m1_step m w ((w - 1 : Nat) : Int) v (v + 1) _ (Al (l.set v l[v + 1])) (Al ((l.set v l[v + 1]).set (v + 1) l[v])) n l[v] l[v + 1] _ _) (A0 (Cb (by omega) (by omega)) (A0 (dlt g) (A0 hw' (A0 hw' (swpOb_ok hl hp hq (A0 hw' (A0 he A2)))))))⟩
  ·exact ⟨l, .refl _, Ac (m1_exit m w v ((w - 1 : Nat) : Int) _ n) (A0 (Cb (by omega) (by omega)) (A0 (dge (by omega)) A2))⟩
theorem m3_loop (m : Int) (w n : Nat) (hn : n < 2 ^ 30) : ∀ (v : Nat) (l : List Ky), v < n → l.length = n →
  ∃ l', l'.Perm l ∧ Ev Bx Ab (Lp 238 3 (mS [(0, sD n), (14, vi w), (17, vi v)] m (Al l))) (.code (.exit 6) (mS [] m (Al l')))
 | 0, l, h, hl => ⟨l, .refl _, Ac (m3_exit m w ((0 : Nat) : Int) _ n) (A0 (decide_eq_false (by omega)) A2)⟩
 | p + 1, l, h, hl => by
  by_cases g : w < p + 1
  ·have hp : p + 1 < l.length := by omega
   have hq : p < l.length := by omega
   obtain ⟨l', hp2, he⟩ := m3_loop m w n hn p ((l.set (p + 1) l[p]).set p l[p + 1]) (by omega) (by simp [hl])
   have hw' : IntKind.wrap .i64 (((p + 1 : Nat) : Int) - 1) = ((p : Nat) : Int) := Cb (by omega) (by omega)
   exact ⟨l', hp2.trans (List.set_set_perm hp hq), Aa _ _ _ _ _ _ (m3_step m w (p + 1) p _ (Al (l.set (p + 1) l[p])) (Al ((l.set (p + 1) l[p]).set p l[p + 1])) n l[p + 1] l[p] _ _) (A0 (decide_eq_true (by omega)) (A0 hw' (A0 hw' (swpOb_ok hl hp hq (A0 hw' (A0 he A2))))))⟩
  ·exact ⟨l, .refl _, Ac (m3_exit m w ((p + 1 : Nat) : Int) _ n) (A0 (decide_eq_false (by omega)) A2)⟩
noncomputable def smC (k : Nat) : Code := seqAt (bodyOf 238) k
noncomputable def smL : Code := seqDrop 11 (bodyOf 238)
theorem sm_body : bodyOf 238 = .seq (smC 0) (.seq (smC 1) (.seq (smC 2) (.seq (smC 3) (.seq (smC 4) (.seq (smC 5) (.seq (smC 6) (.seq (smC 7) (.seq (smC 8) (.seq (smC 9) (.seq (smC 10) smL)))))))))) := by kernel_rfl
def mI (n : Nat) (a k b m : Int) (cs : List AV) : St := { σ := [sD n, vi a, vi k, vi b, sF] ++ List.replicate (220 - 5) B7, h := sH m cs }
def evC (c : Code) (s : St) (x : X) (s1 : St) : Prop := Ev Bx Ab (.code 238 false c s) (.code x s1)
noncomputable def syC (c : Code) (s : St) (sc : Ah) (keep : List Nat) : SM (X × St) := symM Bx Ab 60 238 false c s sc keep
theorem c0f (n : Nat) (a k b m d : Int) (cs : List AV) : syC (smC 0) (mI n a k b m cs) [(A1 238 27, .int d), (A1 238 28, .b false)] [0, 1, 2, 3, 4] = some ((.normal, mS (mB n a k b) m cs), [], [IntKind.wrap .i64 (k - a) = d, (d == 1) = false]) := by kernel_rfl
def lp0 (n a : Nat) (i j i1 m : Int) (cs : List AV) : Prop := Ev Bx Ab (Lp 238 0 (mS ([(0, sD n), (1, vi (a : Nat)), (4, sF)] ++ [(10, vi i), (11, vi j)]) m cs)) (.code (.exit 0) (mS ([(0, sD n), (1, vi (a : Nat))] ++ [(10, vi i1)]) m cs))
def lp1 (n : Nat) (w v m : Int) (cs cs' : List AV) : Prop := Ev Bx Ab (Lp 238 1 (mS [(0, sD n), (10, vi w), (13, vi v)] m cs)) (.code (.exit 2) (mS [] m cs'))
def lp2 (n k : Nat) (i j i1 m : Int) (cs : List AV) : Prop := Ev Bx Ab (Lp 238 2 (mS ([(0, sD n), (2, vi (k : Nat)), (4, sF)] ++ [(14, vi i), (15, vi j)]) m cs)) (.code (.exit 4) (mS ([(0, sD n), (2, vi (k : Nat))] ++ [(14, vi i1)]) m cs))
def lp3 (n : Nat) (w v m : Int) (cs cs' : List AV) : Prop := Ev Bx Ab (Lp 238 3 (mS [(0, sD n), (14, vi w), (17, vi v)] m cs)) (.code (.exit 6) (mS [] m cs'))
def lp4 (n : Nat) (a k b mid n2 p i j i1 m : Int) (cs : List AV) : Prop := Ev Bx Ab (Lp 238 4 (mS ((mB n a k b ++ [(18, vi mid), (19, vi n2), (22, vi p)]) ++ [(20, vi i), (21, vi j)]) m cs)) (.code (.exit 8) (mS ((mB n a k b ++ [(18, vi mid), (19, vi n2)]) ++ [(20, vi i1)]) m cs))
theorem c0t (n a : Nat) (k b m d i1 : Int) (cs cs' : List AV) : syC (smC 0) (mI n (a : Nat) k b m cs) [(A1 238 27, .int d), (A1 238 28, .b true), (A1 238 8001, .loop [0, 1, 4, 10, 11] (.exit 0) (mS ([(0, sD n), (1, vi (a : Nat))] ++ [(10, vi i1)]) m cs)), (A1 238 8001, .loop [0, 10, 13] (.exit 2) (mS [] m cs'))] [] =
  some ((.ret, mS [] m cs'), [], [IntKind.wrap .i64 (k - (a : Nat)) = d, (d == 1) = true, lp0 n a k b i1 m cs, lp1 n i1 (a : Nat) m cs cs']) := by kernel_rfl
theorem c1f (n : Nat) (a k b m d : Int) (cs : List AV) : syC (smC 1) (mS (mB n a k b) m cs) [(A1 238 79, .int d), (A1 238 80, .b false)] [0, 1, 2, 3, 4] = some ((.normal, mS (mB n a k b) m cs), [], [IntKind.wrap .i64 (b - k) = d, (d == 1) = false]) := by kernel_rfl
theorem c1t (n k : Nat) (a b m d i1 : Int) (cs cs' : List AV) : syC (smC 1) (mS (mB n a (k : Nat) b) m cs) [(A1 238 79, .int d), (A1 238 80, .b true), (A1 238 8001, .loop [0, 2, 4, 14, 15] (.exit 4) (mS ([(0, sD n), (2, vi (k : Nat))] ++ [(14, vi i1)]) m cs)), (A1 238 8001, .loop [0, 14, 17] (.exit 6) (mS [] m cs'))] [] =
  some ((.ret, mS [] m cs'), [], [IntKind.wrap .i64 (b - (k : Nat)) = d, (d == 1) = true, lp2 n k a (k : Nat) i1 m cs, lp3 n i1 (k : Nat) m cs cs']) := by kernel_rfl
theorem p2 (n : Nat) (a k b m s mid : Int) (cs : List AV) : syC (smC 2) (mS (mB n a k b) m cs) [(A1 238 131, .int s), (A1 238 132, .int s), (A1 238 133, .int mid), (A1 238 134, .int mid)] [0, 1, 2, 3, 4, 18] = some ((.normal, mS (mB n a k b ++ [(18, vi mid)]) m cs), [], hOb a b s mid []) := by kernel_rfl
theorem p3 (n : Nat) (a k b m mid n2 : Int) (cs : List AV) : syC (smC 3) (mS (mB n a k b ++ [(18, vi mid)]) m cs) [(A1 238 137, .int n2)] [0, 1, 2, 3, 4, 18, 19] = some ((.normal, mS (mB n a k b ++ [(18, vi mid), (19, vi n2)]) m cs), [], [IntKind.wrap .i64 (mid + k) = n2]) := by kernel_rfl
theorem p4 (n : Nat) (a k b m mid n2 : Int) (cs : List AV) : syC (smC 4) (mS (mB n a k b ++ [(18, vi mid), (19, vi n2)]) m cs) [] [0, 1, 2, 3, 4, 18, 19] = some ((.normal, mS (mB n a k b ++ [(18, vi mid), (19, vi n2)]) m cs), [], []) := by kernel_rfl
theorem p5t (n : Nat) (a k b m mid n2 s0 : Int) (cs : List AV) : syC (smC 5) (mS (mB n a k b ++ [(18, vi mid), (19, vi n2)]) m cs) [(A1 238 140, .b true), (A1 238 143, .int s0)] [0, 1, 2, 3, 4, 18, 19, 20, 21] = some ((.normal, mS ((mB n a k b ++ [(18, vi mid), (19, vi n2)]) ++ [(20, vi s0), (21, vi mid)]) m cs), [], [decide (k > mid) = true, IntKind.wrap .i64 (n2 - b) = s0]) := by kernel_rfl
theorem p5f (n : Nat) (a k b m mid n2 : Int) (cs : List AV) : syC (smC 5) (mS (mB n a k b ++ [(18, vi mid), (19, vi n2)]) m cs) [(A1 238 140, .b false)] [0, 1, 2, 3, 4, 18, 19, 20, 21] = some ((.normal, mS ((mB n a k b ++ [(18, vi mid), (19, vi n2)]) ++ [(20, vi a), (21, vi k)]) m cs), [], [decide (k > mid) = false]) := by kernel_rfl
theorem p6 (n : Nat) (a k b m mid n2 s r p : Int) (cs : List AV) : syC (smC 6) (mS ((mB n a k b ++ [(18, vi mid), (19, vi n2)]) ++ [(20, vi s), (21, vi r)]) m cs) [(A1 238 148, .int p)] [0, 1, 2, 3, 4, 18, 19, 20, 21, 22] = some ((.normal, mS ((mB n a k b ++ [(18, vi mid), (19, vi n2), (22, vi p)]) ++ [(20, vi s), (21, vi r)]) m cs), [], [IntKind.wrap .i64 (n2 - 1) = p]) := by kernel_rfl
theorem p7 (n : Nat) (a k b m mid n2 s r p i1 : Int) (cs : List AV) : syC (smC 7) (mS ((mB n a k b ++ [(18, vi mid), (19, vi n2), (22, vi p)]) ++ [(20, vi s), (21, vi r)]) m cs) [(A1 238 8001, .loop [0, 1, 2, 3, 4, 18, 19, 20, 21, 22] (.exit 8) (mS ((mB n a k b ++ [(18, vi mid), (19, vi n2)]) ++ [(20, vi i1)]) m cs))] [0, 1, 2, 3, 4, 18, 19, 20] =
  some ((.normal, mS ((mB n a k b ++ [(18, vi mid), (19, vi n2)]) ++ [(20, vi i1)]) m cs), [], [lp4 n a k b mid n2 p s r i1 m cs]) := by kernel_rfl
def mT (n : Nat) (a k b mid s e : Int) : List (Nat × AV) := mB n a k b ++ [(18, vi mid), (20, vi s), (24, vi e)]
theorem p8 (n : Nat) (a k b m mid n2 s e : Int) (cs : List AV) : syC (smC 8) (mS ((mB n a k b ++ [(18, vi mid), (19, vi n2)]) ++ [(20, vi s)]) m cs) [(A1 238 177, .int e)] [0, 1, 2, 3, 4, 18, 20, 24] = some ((.normal, mS (mT n a k b mid s e) m cs), [], [IntKind.wrap .i64 (n2 - s) = e]) := by kernel_rfl
def cT (g : FuncId) (n : Nat) (a k b m : Int) (cs cs' : List AV) : Prop := Ev Bx Ab (.call g [sD n, vi a, vi k, vi b, sF] (sH m cs)) (.val Ci (sH m cs'))
theorem p9a (n : Nat) (a k b m mid s e : Int) (cs : List AV) : syC (smC 9) (mS (mT n a k b mid s e) m cs) [(A1 238 180, .b false)] [0, 1, 2, 3, 4, 18, 20, 24] = some ((.normal, mS (mT n a k b mid s e) m cs), [], [decide (s < k) = false]) := by kernel_rfl
theorem p9b (n : Nat) (a k b m mid s e : Int) (cs : List AV) : syC (smC 9) (mS (mT n a k b mid s e) m cs) [(A1 238 180, .b true), (A1 238 184, .b false)] [0, 1, 2, 3, 4, 18, 20, 24] = some ((.normal, mS (mT n a k b mid s e) m cs), [], [decide (s < k) = true, decide (k < e) = false]) := by kernel_rfl
theorem p9c (n : Nat) (a k b m mid s e : Int) (cs cs' : List AV) : syC (smC 9) (mS (mT n a k b mid s e) m cs) [(A1 238 180, .b true), (A1 238 184, .b true), (A1 238 191, .call Ci (sH m cs'))] [0, 1, 2, 3, 4, 18, 20, 24] = some ((.normal, mS (mT n a k b mid s e) m cs'), [], [decide (s < k) = true, decide (k < e) = true, cT 240 n s k e m cs cs']) := by kernel_rfl
theorem p10a (n : Nat) (a k b m mid s e : Int) (cs : List AV) : syC (smC 10) (mS (mT n a k b mid s e) m cs) [(A1 238 194, .b false)] [0, 1, 2, 3, 4, 18, 20, 24] = some ((.normal, mS (mT n a k b mid s e) m cs), [], [decide (a < s) = false]) := by kernel_rfl
theorem p10b (n : Nat) (a k b m mid s e : Int) (cs : List AV) : syC (smC 10) (mS (mT n a k b mid s e) m cs) [(A1 238 194, .b true), (A1 238 198, .b false)] [0, 1, 2, 3, 4, 18, 20, 24] = some ((.normal, mS (mT n a k b mid s e) m cs), [], [decide (a < s) = true, decide (s < mid) = false]) := by kernel_rfl
theorem p10c (n : Nat) (a k b m mid s e : Int) (cs cs' : List AV) : syC (smC 10) (mS (mT n a k b mid s e) m cs) [(A1 238 194, .b true), (A1 238 198, .b true), (A1 238 205, .call Ci (sH m cs'))] [0, 1, 2, 3, 4, 18, 20, 24] = some ((.normal, mS (mT n a k b mid s e) m cs'), [], [decide (a < s) = true, decide (s < mid) = true, cT 238 n a s mid m cs cs']) := by kernel_rfl
theorem p11a (n : Nat) (a k b m mid s e : Int) (cs : List AV) : syC smL (mS (mT n a k b mid s e) m cs) [(A1 238 208, .b false)] [] = some ((.normal, mS ([]) m cs), [], [decide (mid < e) = false]) := by kernel_rfl
theorem p11b (n : Nat) (a k b m mid s e : Int) (cs : List AV) : syC smL (mS (mT n a k b mid s e) m cs) [(A1 238 208, .b true), (A1 238 212, .b false)] [] = some ((.normal, mS ([]) m cs), [], [decide (mid < e) = true, decide (e < b) = false]) := by kernel_rfl
theorem p11c (n : Nat) (a k b m mid s e : Int) (cs cs' : List AV) : syC smL (mS (mT n a k b mid s e) m cs) [(A1 238 208, .b true), (A1 238 212, .b true), (A1 238 219, .call Ci (sH m cs'))] [] = some ((.normal, mS ([]) m cs'), [], [decide (mid < e) = true, decide (e < b) = true, cT 238 n mid e b m cs cs']) := by kernel_rfl
theorem eC {c : Code} {s s1 : St} {x : X} {sc sc' : Ah} {keep : List Nat} {ob : List Prop} (h : syC c s sc keep = some ((x, s1), sc', ob)) (hp : AI ob) : evC c s x s1 := Ac h hp
theorem sq {a b : Code} {s s1 s2 : St} {x : X} (h1 : evC a s .normal s1) (h2 : evC b s1 x s2) : evC (.seq a b) s x s2 := .seq _ _ _ _ _ _ _ _ h1 h2
theorem sm_info : ((Tryz.prog.funcs[238]?).map fun fd => (fd.ntmps, fd.results.toList)) = some (220, []) := by kernel_rfl
theorem sm_some : ((Tryz.prog.funcs[238]?).bind fun fd => fd.body) = some (bodyOf 238) := by kernel_rfl
theorem sm_of {n : Nat} {a k b m : Int} {cs cs' : List AV} {x : X} (hx : x = .normal ∨ x = .ret) (h : evC (bodyOf 238) (mI n a k b m cs) x (mS [] m cs')) : cT 238 n a k b m cs cs' :=
 call_unit (x := x) (σ := Ap 220 []) rfl sm_info sm_some hx h
theorem part_ev {c : Code} {g : FuncId} {n : Nat} {m : Int} {A B : Prop} [Decidable A] [Decidable B] {s1 : List AV → St} {s2 : List AV → St} {x y z : Int} {l : List Ky}
  (ha : A = false → evC c (s1 (Al l)) .normal (s2 (Al l))) (hb : A → B = false → evC c (s1 (Al l)) .normal (s2 (Al l)))
  (hc : A → B → ∀ cs', cT g n x y z m (Al l) cs' → evC c (s1 (Al l)) .normal (s2 cs')) (hg : A → B → ∃ l', l'.Perm l ∧ cT g n x y z m (Al l) (Al l')) :
  ∃ l', l'.Perm l ∧ evC c (s1 (Al l)) .normal (s2 (Al l')) := by
 by_cases h1 : A
 ·by_cases h2 : B
  ·obtain ⟨l', hp, he⟩ := hg h1 h2
   exact ⟨l', hp, hc h1 h2 _ he⟩
  ·exact ⟨l, .refl _, hb h1 (by simpa using h2)⟩
 ·exact ⟨l, .refl _, ha (by simpa using h1)⟩
theorem sm_ev (m : Int) (n : Nat) : ∀ (d a k b : Nat) (l : List Ky), b ≤ a + d → a < k → k < b → b ≤ n → l.length = n → Cy l → ∃ l', l'.Perm l ∧ cT 238 n a k b m (Al l) (Al l')
 | 0, a, k, b, l, h, h1, h2, h3, hl, hs => by omega
 | d + 1, a, k, b, l, h, h1, h2, h3, hl, hs => by
  have h30 := hs.1
  have w0 : IntKind.wrap .i64 ((k : Int) - (a : Int)) = ((k - a : Nat) : Int) := Cb (by omega) (by omega)
  have w1 : IntKind.wrap .i64 ((b : Int) - (k : Int)) = ((b - k : Nat) : Int) := Cb (by omega) (by omega)
  by_cases e0 : k - a = 1
  ·obtain ⟨i1, a1, a2, he1⟩ := m0_loop m a n l hl hs (by omega) b k b (by omega) (by omega) (by omega)
   obtain ⟨l', hp, he2⟩ := m1_loop m i1 n (by omega) (by omega) (by omega) n a l (by omega) hl
   refine ⟨l', hp, sm_of (x := .ret) (.inr rfl) ?_⟩
   rw [sm_body]
   exact .seqX _ _ _ _ _ _ _ (eC (c0t n a k b m ((k - a : Nat) : Int) i1 _ _) (A0 w0 (A0 (by rw [e0]; rfl) (A0 he1 (A0 he2 A2))))) (fun hx => by cases hx)
  ·have n0 : (((k - a : Nat) : Int) == 1) = false := by
    have : ¬ ((k - a : Nat) : Int) = 1 := by omega
    simpa using this
   have E0 := eC (c0f n a k b m ((k - a : Nat) : Int) (Al l)) (A0 w0 (A0 n0 A2))
   by_cases e1 : b - k = 1
   ·obtain ⟨i1, a1, a2, he1⟩ := m2_loop m k n l hl hs (by omega) k a k (by omega) (by omega) (by omega)
    obtain ⟨l', hp, he2⟩ := m3_loop m i1 n (by omega) k l (by omega) hl
    refine ⟨l', hp, sm_of (x := .ret) (.inr rfl) ?_⟩
    rw [sm_body]
    exact sq E0 (.seqX _ _ _ _ _ _ _ (eC (c1t n k a b m ((b - k : Nat) : Int) i1 _ _) (A0 w1 (A0 (by rw [e1]; rfl) (A0 he1 (A0 he2 A2))))) (fun hx => by cases hx))
   ·have n1 : (((b - k : Nat) : Int) == 1) = false := by
     have : ¬ ((b - k : Nat) : Int) = 1 := by omega
     simpa using this
    have E1 := eC (c1f n a k b m ((b - k : Nat) : Int) (Al l)) (A0 w1 (A0 n1 A2))
    have E2 := eC (p2 n a k b m ((a + b : Nat) : Int) (((a + b) / 2 : Nat) : Int) (Al l)) (hOb_ok (by omega) A2)
    generalize hmid : (a + b) / 2 = mid at E2
    have E3 := eC (p3 n a k b m mid ((mid + k : Nat) : Int) (Al l)) (A0 (Cb (by simp) (by omega)) A2)
    have E4 := eC (p4 n a k b m mid ((mid + k : Nat) : Int) (Al l)) A2
    have mid1 : a < mid := by omega
    have mid2 : mid < b := by omega
    obtain ⟨s0, r0, hs1, hs2, hs3, hs4, hs5, E5⟩ : ∃ s0 r0 : Nat, a ≤ s0 ∧ s0 ≤ r0 ∧ r0 ≤ mid + k - 1 ∧ r0 ≤ n ∧ mid + k ≤ s0 + b ∧ evC (smC 5) (mS (mB n a k b ++ [(18, vi mid), (19, vi ((mid + k : Nat) : Int))]) m (Al l)) .normal (mS ((mB n a k b ++ [(18, vi mid), (19, vi ((mid + k : Nat) : Int))]) ++ [(20, vi (s0 : Nat)), (21, vi (r0 : Nat))]) m (Al l)) := by
     by_cases g : mid < k
     ·exact ⟨mid + k - b, mid, by omega, by omega, by omega, by omega, by omega, eC (p5t n a k b m mid ((mid + k : Nat) : Int) ((mid + k - b : Nat) : Int) (Al l)) (A0 (decide_eq_true (by omega)) (A0 (Cb (by omega) (by omega)) A2))⟩
     ·exact ⟨a, k, by omega, by omega, by omega, by omega, by omega, eC (p5f n a k b m mid ((mid + k : Nat) : Int) (Al l)) (A0 (decide_eq_false (by omega)) A2)⟩
    have E6 := eC (p6 n a k b m mid ((mid + k : Nat) : Int) s0 r0 ((mid + k - 1 : Nat) : Int) (Al l)) (A0 (Cb (by omega) (by omega)) A2)
    obtain ⟨s, a1, a2, he⟩ := m4_loop m a k b mid (mid + k) n l hl hs s0 r0 hs4 (by omega) (by omega) r0 s0 r0 (by omega) (Nat.le_refl _) hs2 (Nat.le_refl _)
    have E7 := eC (p7 n a k b m mid ((mid + k : Nat) : Int) s0 r0 ((mid + k - 1 : Nat) : Int) s (Al l)) (A0 he A2)
    have E8 := eC (p8 n a k b m mid ((mid + k : Nat) : Int) s ((mid + k - s : Nat) : Int) (Al l)) (A0 (Cb (by omega) (by omega)) A2)
    have hend : mid + k - s ≤ b := by omega
    generalize mid + k - s = e at E8 hend
    obtain ⟨l1, hp1, E9⟩ := part_ev (c := smC 9) (g := 240) (n := n) (m := m) (A := ((s : Int) < k)) (B := ((k : Int) < e)) (s1 := mS (mT n a k b mid s e) m) (s2 := mS (mT n a k b mid s e) m) (x := s) (y := k) (z := e) (l := l)
     (fun h => eC (p9a n a k b m mid s e _) (A0 (decide_eq_false (by simp [h])) A2)) (fun h h' => eC (p9b n a k b m mid s e _) (A0 (decide_eq_true h) (A0 (decide_eq_false (by simp [h'])) A2)))
     (fun h h' cs' hc => eC (p9c n a k b m mid s e _ cs') (A0 (decide_eq_true h) (A0 (decide_eq_true h') (A0 hc A2)))) (fun h h' => by
      obtain ⟨l', hp, he⟩ := ro_ev m l s k e h30 (by omega) (by omega) (by omega)
      rw [hl] at he
      exact ⟨l', hp, he⟩)
    have hs1' := hs.perm hp1
    obtain ⟨l2, hp2, E10⟩ := part_ev (c := smC 10) (g := 238) (n := n) (m := m) (A := ((a : Int) < s)) (B := ((s : Int) < mid)) (s1 := mS (mT n a k b mid s e) m) (s2 := mS (mT n a k b mid s e) m) (x := a) (y := s) (z := mid) (l := l1)
     (fun h => eC (p10a n a k b m mid s e _) (A0 (decide_eq_false (by simp [h])) A2)) (fun h h' => eC (p10b n a k b m mid s e _) (A0 (decide_eq_true h) (A0 (decide_eq_false (by simp [h'])) A2)))
     (fun h h' cs' hc => eC (p10c n a k b m mid s e _ cs') (A0 (decide_eq_true h) (A0 (decide_eq_true h') (A0 hc A2)))) (fun h h' => sm_ev m n d a s mid l1 (by omega) (by omega) (by omega) (by omega) (by rw [hp1.length_eq, hl]) hs1')
    have hs2' := hs1'.perm hp2
    obtain ⟨l3, hp3, E11⟩ := part_ev (c := smL) (g := 238) (n := n) (m := m) (A := ((mid : Int) < e)) (B := ((e : Int) < b)) (s1 := mS (mT n a k b mid s e) m) (s2 := mS [] m) (x := mid) (y := e) (z := b) (l := l2)
     (fun h => eC (p11a n a k b m mid s e _) (A0 (decide_eq_false (by simp [h])) A2)) (fun h h' => eC (p11b n a k b m mid s e _) (A0 (decide_eq_true h) (A0 (decide_eq_false (by simp [h'])) A2)))
     (fun h h' cs' hc => eC (p11c n a k b m mid s e _ cs') (A0 (decide_eq_true h) (A0 (decide_eq_true h') (A0 hc A2)))) (fun h h' => sm_ev m n d mid e b l2 (by omega) (by omega) (by omega) h3 (by rw [hp2.length_eq, hp1.length_eq, hl]) hs2')
    refine ⟨l3, hp3.trans (hp2.trans hp1), sm_of (x := .normal) (.inl rfl) ?_⟩
    rw [sm_body]
    exact sq E0 (sq E1 (sq E2 (sq E3 (sq E4 (sq E5 (sq E6 (sq E7 (sq E8 (sq E9 (sq E10 E11))))))))))
def tS (l : List (Nat × AV)) (m : Int) (cs : List AV) : St := { σ := Ap 63 l, h := sH m cs }
def tB (n : Nat) (bs : Int) : List (Nat × AV) := [(0, sD n), (1, vi (n : Nat)), (2, sF), (6, vi bs)]
def iT (n : Nat) (a b m : Int) (cs cs' : List AV) : Prop := Ev Bx Ab (.call 237 [sD n, vi a, vi b, sF] (sH m cs)) (.val Ci (sH m cs'))
def tL (k : Nat) (s : St) (x : X) (s1 : St) : Prop := Ev Bx Ab (Lp 231 k s) (.code x s1)
theorem t0_exit (n : Nat) (bs a b m : Int) (cs : List AV) : sM Bx 231 0 (tS (tB n bs ++ [(7, vi a), (8, vi b)]) m cs) [(A1 231 13, .b false)] [0, 1, 2, 6, 7] = some ((.exit 0, tS (tB n bs ++ [(7, vi a)]) m cs), [], [decide (b ≤ (n : Nat)) = false]) := by kernel_rfl
theorem t0_step (n : Nat) (bs a b b' m : Int) (cs cs' : List AV) (X : X) (st : St) : AY Bx Ab 60 (Lp 231 0 (tS (tB n bs ++ [(7, vi a), (8, vi b)]) m cs)) [(A1 231 13, .b true), (A1 231 18, .call Ci (sH m cs')), (A1 231 22, .int b'), (A1 231 8001, .loop [0, 1, 2, 6, 7, 8] X st)] =
  some (.code X st, [], [decide (b ≤ (n : Nat)) = true, iT n a b m cs cs', IntKind.wrap .i64 (b + bs) = b', tL 0 (tS (tB n bs ++ [(7, vi b), (8, vi b')]) m cs') X st]) := by kernel_rfl
theorem t2_exit (n : Nat) (bs a b m : Int) (cs : List AV) : sM Bx 231 2 (tS (tB n bs ++ [(7, vi a), (8, vi b)]) m cs) [(A1 231 35, .b false)] [0, 1, 2, 6, 7] = some ((.exit 4, tS (tB n bs ++ [(7, vi a)]) m cs), [], [decide (b ≤ (n : Nat)) = false]) := by kernel_rfl
theorem t2_step (n : Nat) (bs a b k c b' m : Int) (cs cs' : List AV) (X : X) (st : St) : AY Bx Ab 60 (Lp 231 2 (tS (tB n bs ++ [(7, vi a), (8, vi b)]) m cs)) [(A1 231 35, .b true), (A1 231 40, .int k), (A1 231 43, .call Ci (sH m cs')), (A1 231 47, .int c), (A1 231 48, .int b'), (A1 231 8001, .loop [0, 1, 2, 6, 7, 8] X st)] =
  some (.code X st, [], [decide (b ≤ (n : Nat)) = true, IntKind.wrap .i64 (a + bs) = k, cT 238 n a k b m cs cs', IntKind.wrap .i64 (2 * bs) = c, IntKind.wrap .i64 (b + c) = b', tL 2 (tS (tB n bs ++ [(7, vi b), (8, vi b')]) m cs') X st]) := by kernel_rfl
theorem t1_exit (n : Nat) (bs m : Int) (cs : List AV) : sM Bx 231 1 (tS (tB n bs) m cs) [(A1 231 30, .b false)] [] = some ((.exit 2, tS [] m cs), [], [decide (bs < (n : Nat)) = false]) := by kernel_rfl
theorem t1_a (n : Nat) (bs c a k bs' m : Int) (cs cs1 : List AV) (X : X) (st : St) : AY Bx Ab 60 (Lp 231 1 (tS (tB n bs) m cs)) [(A1 231 30, .b true), (A1 231 32, .int c), (A1 231 8001, .loop [0, 1, 2, 6, 7, 8] (.exit 4) (tS (tB n bs ++ [(7, vi a)]) m cs1)), (A1 231 51, .int k), (A1 231 54, .b false), (A1 231 62, .int bs'), (A1 231 8001, .loop [0, 1, 2, 6] X st)] =
  some (.code X st, [], [decide (bs < (n : Nat)) = true, IntKind.wrap .i64 (2 * bs) = c, tL 2 (tS (tB n bs ++ [(7, vi 0), (8, vi c)]) m cs) (.exit 4) (tS (tB n bs ++ [(7, vi a)]) m cs1), IntKind.wrap .i64 (a + bs) = k, decide (k < (n : Nat)) = false, IntKind.wrap .i64 (bs * 2) = bs', tL 1 (tS (tB n bs') m cs1) X st]) := by kernel_rfl
theorem t1_b (n : Nat) (bs c a k bs' m : Int) (cs cs1 cs2 : List AV) (X : X) (st : St) : AY Bx Ab 60 (Lp 231 1 (tS (tB n bs) m cs)) [(A1 231 30, .b true), (A1 231 32, .int c), (A1 231 8001, .loop [0, 1, 2, 6, 7, 8] (.exit 4) (tS (tB n bs ++ [(7, vi a)]) m cs1)), (A1 231 51, .int k), (A1 231 54, .b true), (A1 231 60, .call Ci (sH m cs2)), (A1 231 62, .int bs'), (A1 231 8001, .loop [0, 1, 2, 6] X st)] =
  some (.code X st, [], [decide (bs < (n : Nat)) = true, IntKind.wrap .i64 (2 * bs) = c, tL 2 (tS (tB n bs ++ [(7, vi 0), (8, vi c)]) m cs) (.exit 4) (tS (tB n bs ++ [(7, vi a)]) m cs1), IntKind.wrap .i64 (a + bs) = k, decide (k < (n : Nat)) = true, cT 238 n a k (n : Nat) m cs1 cs2, IntKind.wrap .i64 (bs * 2) = bs', tL 1 (tS (tB n bs') m cs2) X st]) := by kernel_rfl
theorem st_call (n : Nat) (a m : Int) (cs cs1 cs2 cs3 : List AV) : AY Bx Ab 60 (.call 231 [sD n, vi (n : Nat), sF] (sH m cs)) [(A1 231 8001, .loop [0, 1, 2, 6, 7, 8] (.exit 0) (tS (tB n 20 ++ [(7, vi a)]) m cs1)), (A1 231 27, .call Ci (sH m cs2)), (A1 231 8001, .loop [0, 1, 2, 6] (.exit 2) (tS [] m cs3))] =
  some (.val Ci (sH m cs3), [], [tL 0 (tS (tB n 20 ++ [(7, vi 0), (8, vi 20)]) m cs) (.exit 0) (tS (tB n 20 ++ [(7, vi a)]) m cs1), iT n a (n : Nat) m cs1 cs2, tL 1 (tS (tB n 20) m cs2) (.exit 2) (tS [] m cs3)]) := by kernel_rfl
theorem t0_loop (m : Int) (n bs : Nat) (hb : 1 ≤ bs) (hb2 : bs < 2 ^ 31) (hn : n < 2 ^ 30) : ∀ (d a b : Nat) (l : List Ky), n < b + d → a ≤ n → b < 2 ^ 32 → l.length = n → Cy l →
  ∃ (l' : List Ky) (a' : Nat), l'.Perm l ∧ a' ≤ n ∧ tL 0 (tS (tB n bs ++ [(7, vi a), (8, vi b)]) m (Al l)) (.exit 0) (tS (tB n bs ++ [(7, vi a')]) m (Al l'))
 | 0, a, b, l, h, ha, hbb, hl, hs => ⟨l, a, .refl _, ha, Ac (t0_exit n bs a b m _) (A0 (decide_eq_false (by omega)) A2)⟩
 | d + 1, a, b, l, h, ha, hbb, hl, hs => by
  by_cases g : b ≤ n
  ·obtain ⟨l1, hp1, he1⟩ := is_ev m l a b hs (by omega) (by omega)
   rw [hl] at he1
   obtain ⟨l2, a2, hp2, ha2, he2⟩ := t0_loop m n bs hb hb2 hn d b (b + bs) l1 (by omega) g (by omega) (by rw [hp1.length_eq, hl]) (hs.perm hp1)
   exact ⟨l2, a2, hp2.trans hp1, ha2, Aa _ _ _ _ _ _ (t0_step n bs a b ((b + bs : Nat) : Int) m _ (Al l1) _ _) (A0 (decide_eq_true (by omega)) (A0 he1 (A0 (Cb (by simp) (by omega)) (A0 he2 A2))))⟩
  ·exact ⟨l, a, .refl _, ha, Ac (t0_exit n bs a b m _) (A0 (decide_eq_false (by omega)) A2)⟩
theorem t2_loop (m : Int) (n bs : Nat) (hb : 1 ≤ bs) (hb2 : bs < 2 ^ 31) (hn : n < 2 ^ 30) : ∀ (d a b : Nat) (l : List Ky), n < b + d → a ≤ n → b = a + 2 * bs → l.length = n → Cy l →
  ∃ (l' : List Ky) (a' : Nat), l'.Perm l ∧ a' ≤ n ∧ tL 2 (tS (tB n bs ++ [(7, vi a), (8, vi b)]) m (Al l)) (.exit 4) (tS (tB n bs ++ [(7, vi a')]) m (Al l'))
 | 0, a, b, l, h, ha, hbb, hl, hs => ⟨l, a, .refl _, ha, Ac (t2_exit n bs a b m _) (A0 (decide_eq_false (by omega)) A2)⟩
 | d + 1, a, b, l, h, ha, hbb, hl, hs => by
  by_cases g : b ≤ n
  ·obtain ⟨l1, hp1, he1⟩ := sm_ev m n n a (a + bs) b l (by omega) (by omega) (by omega) g hl hs
   obtain ⟨l2, a2, hp2, ha2, he2⟩ := t2_loop m n bs hb hb2 hn d b (b + 2 * bs) l1 (by omega) g rfl (by rw [hp1.length_eq, hl]) (hs.perm hp1)
   exact ⟨l2, a2, hp2.trans hp1, ha2, Aa _ _ _ _ _ _ (t2_step n bs a b ((a + bs : Nat) : Int) ((2 * bs : Nat) : Int) ((b + 2 * bs : Nat) : Int) m _ (Al l1) _ _) (A0 (decide_eq_true (by omega)) (A0 (Cb (by simp) (by omega)) (A0 he1 (A0 (Cb (by simp) (by omega)) (A0 (Cb (by simp) (by omega)) (A0 he2 A2))))))⟩
  ·exact ⟨l, a, .refl _, ha, Ac (t2_exit n bs a b m _) (A0 (decide_eq_false (by omega)) A2)⟩
theorem t1_loop (m : Int) (n : Nat) (hn : n < 2 ^ 30) : ∀ (d bs : Nat) (l : List Ky), n ≤ bs + d → 1 ≤ bs → bs < 2 ^ 31 → l.length = n → Cy l →
  ∃ l' : List Ky, l'.Perm l ∧ tL 1 (tS (tB n bs) m (Al l)) (.exit 2) (tS [] m (Al l'))
 | 0, bs, l, h, h1, h2, hl, hs => ⟨l, .refl _, Ac (t1_exit n bs m _) (A0 (decide_eq_false (by omega)) A2)⟩
 | d + 1, bs, l, h, h1, h2, hl, hs => by
  by_cases g : bs < n
  ·obtain ⟨l1, a, hp1, ha, he1⟩ := t2_loop m n bs h1 h2 hn (n + 1) 0 (2 * bs) l (by omega) (by omega) (by omega) hl hs
   have hs1 := hs.perm hp1
   have hl1 : l1.length = n := by rw [hp1.length_eq, hl]
   have w2 : IntKind.wrap .i64 (2 * (bs : Int)) = ((2 * bs : Nat) : Int) := Cb (by simp) (by omega)
   have w3 : IntKind.wrap .i64 ((bs : Int) * 2) = ((bs * 2 : Nat) : Int) := Cb (by simp) (by omega)
   have w4 : IntKind.wrap .i64 ((a : Int) + (bs : Int)) = ((a + bs : Nat) : Int) := Cb (by simp) (by omega)
   by_cases g2 : a + bs < n
   ·obtain ⟨l2, hp2, he2⟩ := sm_ev m n n a (a + bs) n l1 (by omega) (by omega) g2 (Nat.le_refl _) hl1 hs1
    obtain ⟨l3, hp3, he3⟩ := t1_loop m n hn d (bs * 2) l2 (by omega) (by omega) (by omega) (by rw [hp2.length_eq, hl1]) (hs1.perm hp2)
    exact ⟨l3, hp3.trans (hp2.trans hp1), Aa _ _ _ _ _ _ (t1_b n bs ((2 * bs : Nat) : Int) a ((a + bs : Nat) : Int) ((bs * 2 : Nat) : Int) m _ (Al l1) (Al l2) _ _) (A0 (decide_eq_true (by omega)) (A0 w2 (A0 he1 (A0 w4 (A0 (decide_eq_true (by omega)) (A0 he2 (A0 w3 (A0 he3 A2))))))))⟩
   ·obtain ⟨l3, hp3, he3⟩ := t1_loop m n hn d (bs * 2) l1 (by omega) (by omega) (by omega) hl1 hs1
    exact ⟨l3, hp3.trans hp1, Aa _ _ _ _ _ _ (t1_a n bs ((2 * bs : Nat) : Int) a ((a + bs : Nat) : Int) ((bs * 2 : Nat) : Int) m _ (Al l1) _ _) (A0 (decide_eq_true (by omega)) (A0 w2 (A0 he1 (A0 w4 (A0 (decide_eq_false (by omega)) (A0 w3 (A0 he3 A2)))))))⟩
  ·exact ⟨l, .refl _, Ac (t1_exit n bs m _) (A0 (decide_eq_false (by omega)) A2)⟩
theorem st_ev (m : Int) (l : List Ky) (hs : Cy l) : ∃ l', l'.Perm l ∧ Ev Bx Ab (.call 231 [sD l.length, vi (l.length : Nat), sF] (sH m (Al l))) (.val Ci (sH m (Al l'))) := by
 have hn := hs.1
 obtain ⟨l1, a, hp1, ha, he1⟩ := t0_loop m l.length 20 (by omega) (by omega) hn (l.length + 1) 0 20 l (by omega) (by omega) (by omega) rfl hs
 have hl1 := hp1.length_eq
 obtain ⟨l2, hp2, he2⟩ := is_ev m l1 a l.length (hs.perm hp1) (by omega) (by omega)
 rw [hl1] at he2
 obtain ⟨l3, hp3, he3⟩ := t1_loop m l.length hn l.length 20 l2 (by omega) (by omega) (by omega) (by rw [hp2.length_eq, hl1]) ((hs.perm hp1).perm hp2)
 exact ⟨l3, hp3.trans (hp2.trans hp1), Aa _ _ _ _ _ _ (st_call l.length a m _ (Al l1) (Al l2) (Al l3)) (A0 he1 (A0 he2 (A0 he3 A2)))⟩
theorem ks_call (m : Int) (f : Bool) (rows : A8) (cs : List AV) : AY Bx Ab 60 (.call 190 [.d (.v (.int .u64 m)), .d (.sl 2 f rows)] {}) [(A1 218 7, .app false), (A1 219 8, .call Ci (sH m cs))] =
  some (.val (sD (0 + rows.length)) (sH m cs), [], [rows.isEmpty = false ∧ Am 0 rows.length 16, Ev Bx Ab (.call 231 [sD (0 + rows.length), vi ((0 + rows.length : Nat) : Int), sF] (sH m (rows.flatten.map .d))) (.val Ci (sH m cs))]) := by kernel_rfl
theorem ks_nil (m : Int) : sV Bx 190 [pu m, .one dnil] [] = some ([.one dnil], [], []) := by kernel_rfl
theorem cellD_kcells : ∀ l : List Ky, Ae cellD (Al l) = some (Ai l).flatten
 | [] => rfl
 | x :: l => by
  have h := cellD_kcells l
  rw [BI]
  simp only [Ae, h]
  rfl
theorem chunk_krows : ∀ l : List Ky, chunk 2 l.length (Ai l).flatten = Ai l
 | [] => rfl
 | x :: l => by
  have h := chunk_krows l
  show chunk 2 (l.length + 1) (du x.1 :: di x.2 :: (Ai l).flatten) = _
  unfold chunk
  show [du x.1, di x.2] :: chunk 2 l.length (Ai l).flatten = _
  rw [h]; rfl
theorem ks_res (m : Int) (l : List Ky) : ∃ h2, resA (sH m (Al l)) (sD l.length) = some ([.one (.sl 2 false (Ai l))], h2) := by
 have hg : (sH m (Al l)).get (A1 218 7) 0 = some (.cells (Al l) false) := rfl
 have hr : rowsOf (sH m (Al l)) (sD l.length) = some (2, Ai l) := by
  show (match (sH m (Al l)).get (A1 218 7) 0 with
   | some (.cells cs _) => match BQ cs 0 (l.length * 2) with
    | some l' => match Ae cellD l' with
     | some ds => some (2, chunk 2 l.length ds)
     | none => none
    | none => none
   | _ => none) = _
  rw [hg]
  have ht : BQ (Al l) 0 (l.length * 2) = some (Al l) := by
   unfold BQ
   rw [if_pos (by rw [kcells_len]; omega), List.drop_zero, List.take_of_length_le (by rw [kcells_len]; omega)]
  simp only [ht, cellD_kcells, chunk_krows]
 have h0 : freeze0 (sH m (Al l)) (sD l.length) = some (.one (.sl 2 false (Ai l)), (sH m (Al l)).set (A1 218 7) 0 (.cells (Al l) true)) := by
  show (match (sH m (Al l)).get (A1 218 7) 0, rowsOf (sH m (Al l)) (sD l.length) with
   | some (.cells cs _), some (_, rows) => some (PV.one (.sl 2 false rows), (sH m (Al l)).set (A1 218 7) 0 (.cells cs true))
   | _, _ => none) = _
  rw [hg, hr]
 refine ⟨(sH m (Al l)).set (A1 218 7) 0 (.cells (Al l) true), ?_⟩
 show (match freeze1 (sH m (Al l)) (sD l.length) with
  | some (p, h1) => some ([p], h1)
  | none => none) = _
 unfold freeze1
 rw [h0]
theorem keySort_sl (m : Int) (f : Bool) (l : List Ky) (hs : Cy l) (hne : l ≠ []) : ∃ l', l'.Perm l ∧ Sat1 C0 190 [pu m, .one (.sl 2 f (Ai l))] [.one (.mn 2 (Ai l'))] := by
 obtain ⟨l', hp, he⟩ := st_ev m l hs
 obtain ⟨h2, hr⟩ := ks_res m l'
 refine ⟨l', hp, ?_⟩
 have h1 : Sat1 Bx 190 [pu m, .one (.sl 2 f (Ai l))] [.one (.mn 2 (Ai l'))] := by
  refine sat1_ev (O := Ab) hPSt (fun _ _ h => h.elim) Bm (WL.same _) (.cons (.one (.row 2 false _)) .nil) ⟨sD (0 + (Ai l).length), sH m (Al l'), h2, ?_, ?_⟩
  ·refine Aa _ _ _ _ _ _ (ks_call m f (Ai l) (Al l')) (A0 ⟨by cases l with | nil => exact absurd rfl hne | cons a l => rfl, by have := hs.1; unfold Am; rw [AU]; omega⟩ (A0 ?_ A2))
   rw [Nat.zero_add, AU]
   exact he
  ·rw [Nat.zero_add, AU, ← hp.length_eq]
   exact hr
 exact h1
theorem keySort_nil (m : Int) : Sat1 C0 190 [pu m, .one dnil] [.one (.mn 2 (Ai []))] :=
 (sat1_ev (O := Ab) hPSt (fun _ _ h => h.elim) Bm (WL.same _) (.cons (.one (.nil 2)) .nil) (A4 (ks_nil m) A2) : Sat1 Bx 190 _ _)
def C7 (m : Nat) (k : Ky) : List Ky → Bool → List Ky × Bool
 | [], d => ([], d)
 | x :: r, d => if !d && BB m k x then (k :: x :: (C7 m k r true).1, (C7 m k r true).2) else (x :: (C7 m k r d).1, (C7 m k r d).2)
def putK (m : Nat) (k : Ky) (l : List Ky) : List Ky := if (C7 m k l false).2 then (C7 m k l false).1 else (C7 m k l false).1 ++ [k]
theorem putG_true (m : Nat) (k : Ky) : ∀ l : List Ky, C7 m k l true = (l, true)
 | [] => rfl
 | x :: r => by simp [C7, putG_true m k r]
theorem putK_perm (m : Nat) (k : Ky) : ∀ l : List Ky, (putK m k l).Perm (k :: l)
 | [] => .refl _
 | x :: r => by
  have ih := putK_perm m k r
  unfold putK at ih ⊢
  by_cases h : BB m k x = true
  ·simp [C7, h, putG_true]
  ·have h' : BB m k x = false := by simpa using h
   simp only [C7, h', Bool.and_false, Bool.false_eq_true, if_false]
   split at ih
   ·rename_i e; rw [if_pos e]; exact (ih.cons x).trans (List.Perm.swap _ _ _)
   ·rename_i e; rw [if_neg e]; exact (ih.cons x).trans (List.Perm.swap _ _ _)
theorem putG_len (m : Nat) (k : Ky) : ∀ (l : List Ky) (d : Bool), (C7 m k l d).1.length ≤ l.length + 1
 | [], d => by simp [C7]
 | x :: r, d => by
  have h1 := putG_len m k r d
  unfold C7
  split
  ·rw [putG_true]; simp
  ·simp only [List.length_cons]; omega
def srtD (m : Nat) (l : List Ky) : List Ky := l.foldl (fun o k => putK m k o) []
theorem foldl_perm (m : Nat) : ∀ (l o : List Ky), (l.foldl (fun o k => putK m k o) o).Perm (l ++ o)
 | [], o => .refl _
 | k :: l, o => by
  have := foldl_perm m l (putK m k o)
  exact this.trans (((putK_perm m k o).append_left l).trans (by simp))
theorem srtD_perm (m : Nat) (l : List Ky) : (srtD m l).Perm l := by
 have := foldl_perm m l []
 rw [List.append_nil] at this
 exact this
noncomputable def CPu : Ctx := Ad C0 178 lessS
theorem hPPu : Aw CPu := A7 BN (less_sat.ctx rfl rfl) (by kernel_rfl)
def puH (v x : Int) (t : AC) : H := { objs := [(A1 223 5, 1, [.cells [.d (du v), .d (di x)] false])], toks := t }
def puHd (m v x : Int) (rows : A8) (a : AV) (d : Bool) (t : AC) (i : Int) : St := { σ := Ap 47 [(0, .d (.v (.int .u64 m))), (1, .d (.mn 2 rows)), (5, .ptr (A1 223 5) 0 0), (7, a), (8, vb d), (9, vi i)], h := puH v x t }
def puOut (v x : Int) (a : AV) (d : Bool) (t : AC) : St := { σ := Ap 47 [(5, .ptr (A1 223 5) 0 0), (7, a), (8, vb d)], h := puH v x t }
theorem pu_exit (m v x i : Int) (rows : A8) (a : AV) (d : Bool) (t : AC) : sM CPu 223 0 (puHd m v x rows a d t i) [(A1 223 14, .b false)] [5, 7, 8] = some ((.exit 0, puOut v x a d t), [], [decide (i < (rows.length : Int)) = false]) := by kernel_rfl
def puS (w y : Int) (z : Bool) (l : Ah) : Ah := (A1 223 14, .b true) :: (A1 223 21, .row [du w, di y]) :: (A1 223 23, .prim [A3 z]) :: l
def puO (m v x i w y : Int) (rows : A8) (z : Bool) (l : List Prop) : List Prop := (decide (i < (rows.length : Int)) = true) :: (0 ≤ i ∧ rows[i.toNat]? = some [du w, di y]) :: (lessS [pu m, .agg [du v, di x], .agg [du w, di y]] = some [A3 z]) :: l
def puN (w y i' : Int) (X : X) (st : St) : Ah := [(A1 223 36, .row [du w, di y]), (A1 223 39, .app false), (A1 223 16, .int i'), (A1 223 8001, .loop [0, 1, 5, 7, 8, 9] X st)]
def puK (m v x i i' w y : Int) (rows : A8) (p : Prop) (a : AV) (d : Bool) (t : AC) (X : X) (st : St) : List Prop := [0 ≤ i ∧ rows[i.toNat]? = some [du w, di y], p, IntKind.wrap .i64 (i + 1) = i', Ev CPu Ab (Lp 223 0 (puHd m v x rows a d t i')) (.code X st)]
theorem pu_a (m v x i i' w y : Int) (rows : A8)  (X : X) (st : St) : AY CPu Ab 60 (Lp 223 0 (puHd m v x rows (.d dnil) false [] i)) (puS w y false (puN w y i' X st)) =
  some (.code X st, [], puO m v x i w y rows false (puK m v x i i' w y rows (false = false ∧ Am 0 1 16) (.st 2 [[du w, di y]] (A1 223 39) 1) false [((A1 223 39), 1)] X st)) := by kernel_rfl
theorem pu_b (m v x i i' w y : Int) (rows : A8)  (X : X) (st : St) : AY CPu Ab 60 (Lp 223 0 (puHd m v x rows (.d dnil) false [] i)) (puS w y true ((A1 223 32, .app false) :: puN w y i' X st)) =
  some (.code X st, [], puO m v x i w y rows true ((false = false ∧ Am 0 1 16) :: puK m v x i i' w y rows (false = false ∧ (1 = 1 ∧ Am 1 1 16)) (.st 2 [[du v, di x], [du w, di y]] (A1 223 39) 1) true [((A1 223 32), 2), ((A1 223 39), 1)] X st)) := by kernel_rfl
theorem pu_c (m v x i i' w y : Int) (rows : A8) (out : A8) (g : Nat) (X : X) (st : St) : AY CPu Ab 60 (Lp 223 0 (puHd m v x rows (.st 2 out (A1 223 39) g) false [((A1 223 39), g)] i)) (puS w y false (puN w y i' X st)) =
  some (.code X st, [], puO m v x i w y rows false (puK m v x i i' w y rows (false = false ∧ (g = g ∧ Am out.length 1 16)) (.st 2 (out ++ [[du w, di y]]) (A1 223 39) (g + 1 + 1)) false [((A1 223 39), g + 1 + 1)] X st)) := by kernel_rfl
theorem pu_d (m v x i i' w y : Int) (rows : A8) (out : A8) (g : Nat) (X : X) (st : St) : AY CPu Ab 60 (Lp 223 0 (puHd m v x rows (.st 2 out (A1 223 39) g) false [((A1 223 39), g)] i)) (puS w y true ((A1 223 32, .app false) :: puN w y i' X st)) =
  some (.code X st, [], puO m v x i w y rows true ((false = false ∧ (g = g ∧ Am out.length 1 16)) :: puK m v x i i' w y rows (false = false ∧ (1 = 1 ∧ Am (out ++ [[du v, di x]]).length 1 16)) (.st 2 (out ++ [[du v, di x]] ++ [[du w, di y]]) (A1 223 39) (g + 1 + 1)) true [((A1 223 32), 2), ((A1 223 39), g + 1 + 1)] X st)) := by kernel_rfl
theorem pu_e (m v x i i' w y : Int) (rows : A8) (out : A8) (g : Nat) (z : Bool) (X : X) (st : St) : AY CPu Ab 60 (Lp 223 0 (puHd m v x rows (.st 2 out (A1 223 39) g) true [((A1 223 32), 2), ((A1 223 39), g)] i)) (puS w y z (puN w y i' X st)) =
  some (.code X st, [], puO m v x i w y rows z (puK m v x i i' w y rows (false = false ∧ (g = g ∧ Am out.length 1 16)) (.st 2 (out ++ [[du w, di y]]) (A1 223 39) (g + 1 + 1)) true [((A1 223 32), 2), ((A1 223 39), g + 1 + 1)] X st)) := by kernel_rfl
def puA (o : List Ky) : AV := apR 2 (A1 223 39) (Ai o)
def puT (d : Bool) (o : List Ky) : AC := if d then (A1 223 32, 2) :: Ct (A1 223 39) (Ai o) else Ct (A1 223 39) (Ai o)
def ouS (o : List Ky) (d : Bool) (a : AV) (t : AC) : Prop := (o = [] ∧ d = false ∧ a = .d dnil ∧ t = []) ∨ ∃ g, o ≠ [] ∧ a = .st 2 (Ai o) (A1 223 39) g ∧ t = (if d then [(A1 223 32, 2), (A1 223 39, g)] else [(A1 223 39, g)])
theorem pu_loop (m : Nat) (hm : m < 2 ^ 64) (k : Ky) (hk : k.1 < 2 ^ 64) (l : List Ky) (hl : l.length < 2 ^ 20) (hv : ∀ y ∈ l, y.1 < 2 ^ 64) : ∀ (r o : List Ky) (i : Nat) (d : Bool) (a : AV) (t : AC), l.drop i = r → i + r.length = l.length → o.length ≤ i + (if d then 1 else 0) → ouS o d a t →
  ∃ a' t', ouS (o ++ (C7 m k r d).1) (C7 m k r d).2 a' t' ∧ Ev CPu Ab (Lp 223 0 (puHd m k.1 k.2 (Ai l) a d t i)) (.code (.exit 0) (puOut k.1 k.2 a' (C7 m k r d).2 t'))
 | [], o, i, d, a, t, hd, hi, hol, h => ⟨a, t, by simpa [C7] using h, Ac (pu_exit m k.1 k.2 i _ a d t) (A0 (by rw [AU]; exact dge (by simp at hi; omega)) A2)⟩
 | y :: r, o, i, d, a, t, hd, hi, hol, h => by
  simp only [List.length_cons] at hi
  have hil : i < l.length := by omega
  have hy : l[i] = y := by
   rw [List.drop_eq_getElem_cons hil] at hd
   exact (List.cons.inj hd).1
  have hd' : l.drop (i + 1) = r := by
   rw [List.drop_eq_getElem_cons hil] at hd
   exact (List.cons.inj hd).2
  have hb : decide ((i : Int) < ((Ai l).length : Int)) = true := by rw [AU]; exact dlt hil
  have hr : 0 ≤ (i : Int) ∧ (Ai l)[((i : Int)).toNat]? = some (kD y) := ⟨by omega, by simp [Ai, List.getElem?_eq_getElem hil, hy]⟩
  have hyv : y.1 < 2 ^ 64 := hv y (by rw [← hy]; exact List.getElem_mem hil)
  have hs := lessS_at hm hk hyv
  have hw : IntKind.wrap .i64 ((i : Int) + 1) = ((i + 1 : Nat) : Int) := Ag (by omega)
  have ob : ∀ {z : Bool} {lp : List Prop}, BB m k y = z → AI lp → AI (puO m k.1 k.2 i y.1 y.2 (Ai l) z lp) := fun hz hL => A0 hb (A0 hr (A0 (by rw [← hz]; exact hs) hL))
  have fit : ∀ {n : Nat}, n ≤ i + 2 → Am n 1 16 := fun hn => by unfold Am; omega
  have kr : ∀ (o : List Ky) (z : Ky), Ai (o ++ [z]) = Ai o ++ [kD z] := fun o z => by simp [Ai]
  rcases h with ⟨rfl, rfl, rfl, rfl⟩ | ⟨g, hne, rfl, rfl⟩
  ·cases hz : BB m k y with
   | false =>
    have ih := pu_loop m hm k hk l hl hv r [y] (i + 1) false (.st 2 [kD y] (A1 223 39) 1) [(A1 223 39, 1)] hd' (by omega) (by simp) (.inr ⟨1, by simp, rfl, rfl⟩)
    obtain ⟨a', t', h1, h2⟩ := ih
    have e : C7 m k (y :: r) false = (y :: (C7 m k r false).1, (C7 m k r false).2) := by simp [C7, hz]
    rw [e]
    exact ⟨a', t', by simpa using h1, Aa _ _ _ _ _ _ (pu_a m k.1 k.2 i ((i + 1 : Nat) : Int) y.1 y.2 (Ai l) _ _) (ob hz (A0 hr (A0 ⟨rfl, fit (by omega)⟩ (A0 hw (A0 h2 A2)))))⟩
   | true =>
    have ih := pu_loop m hm k hk l hl hv r [k, y] (i + 1) true (.st 2 [kD k, kD y] (A1 223 39) 1) [(A1 223 32, 2), (A1 223 39, 1)] hd' (by omega) (by simp) (.inr ⟨1, by simp, rfl, rfl⟩)
    obtain ⟨a', t', h1, h2⟩ := ih
    have e : C7 m k (y :: r) false = (k :: y :: (C7 m k r true).1, (C7 m k r true).2) := by simp [C7, hz]
    rw [e]
    exact ⟨a', t', by simpa using h1, Aa _ _ _ _ _ _ (pu_b m k.1 k.2 i ((i + 1 : Nat) : Int) y.1 y.2 (Ai l) _ _) (ob hz (A0 ⟨rfl, fit (by omega)⟩ (A0 hr (A0 ⟨rfl, rfl, fit (by omega)⟩ (A0 hw (A0 h2 A2))))))⟩
  ·have ho1 : (Ai o).length ≤ i + 1 := by
    rw [AU]
    cases d <;> simp at hol <;> omega
   cases d with
   | true =>
    have ih := pu_loop m hm k hk l hl hv r (o ++ [y]) (i + 1) true (.st 2 (Ai o ++ [kD y]) (A1 223 39) (g + 1 + 1)) [(A1 223 32, 2), (A1 223 39, g + 1 + 1)] hd' (by omega) (by simp at hol ⊢; omega) (.inr ⟨g + 1 + 1, by simp, by rw [kr], rfl⟩)
    obtain ⟨a', t', h1, h2⟩ := ih
    have e : C7 m k (y :: r) true = (y :: (C7 m k r true).1, (C7 m k r true).2) := by simp [C7]
    rw [e]
    exact ⟨a', t', by simpa using h1, Aa _ _ _ _ _ _ (pu_e m k.1 k.2 i ((i + 1 : Nat) : Int) y.1 y.2 (Ai l) (Ai o) g _ _ _) (ob rfl (A0 hr (A0 ⟨rfl, rfl, fit (by omega)⟩ (A0 hw (A0 h2 A2)))))⟩
   | false =>
    cases hz : BB m k y with
    | false =>
     have ih := pu_loop m hm k hk l hl hv r (o ++ [y]) (i + 1) false (.st 2 (Ai o ++ [kD y]) (A1 223 39) (g + 1 + 1)) [(A1 223 39, g + 1 + 1)] hd' (by omega) (by simp at hol ⊢; omega) (.inr ⟨g + 1 + 1, by simp, by rw [kr], rfl⟩)
     obtain ⟨a', t', h1, h2⟩ := ih
     have e : C7 m k (y :: r) false = (y :: (C7 m k r false).1, (C7 m k r false).2) := by simp [C7, hz]
     rw [e]
     exact ⟨a', t', by simpa using h1, Aa _ _ _ _ _ _ (pu_c m k.1 k.2 i ((i + 1 : Nat) : Int) y.1 y.2 (Ai l) (Ai o) g _ _) (ob hz (A0 hr (A0 ⟨rfl, rfl, fit (by omega)⟩ (A0 hw (A0 h2 A2)))))⟩
    | true =>
     have hol' : o.length ≤ i := by simpa using hol
     have ih := pu_loop m hm k hk l hl hv r (o ++ [k] ++ [y]) (i + 1) true (.st 2 (Ai o ++ [kD k] ++ [kD y]) (A1 223 39) (g + 1 + 1)) [(A1 223 32, 2), (A1 223 39, g + 1 + 1)] hd' (by omega) (by simp at hol ⊢; omega) (.inr ⟨g + 1 + 1, by simp, by rw [kr, kr], rfl⟩)
     obtain ⟨a', t', h1, h2⟩ := ih
     have e : C7 m k (y :: r) false = (k :: y :: (C7 m k r true).1, (C7 m k r true).2) := by simp [C7, hz]
     rw [e]
     exact ⟨a', t', by simpa using h1, Aa _ _ _ _ _ _ (pu_d m k.1 k.2 i ((i + 1 : Nat) : Int) y.1 y.2 (Ai l) (Ai o) g _ _) (ob hz (A0 ⟨rfl, rfl, fit (by omega)⟩ (A0 hr (A0 ⟨rfl, rfl, fit (by simp [Ai]; omega)⟩ (A0 hw (A0 h2 A2))))))⟩
theorem pv_n (m v x i : Int) (rows : A8) : sV CPu 223 [pu m, .one (.mn 2 rows), .agg [du v, di x]] [(A1 223 8001, .loop [0, 1, 5, 7, 8, 9] (.exit 0) (puOut v x (.d dnil) false [])), (A1 223 45, .app false)] =
  some ([.one (.sl 2 false [[du v, di x]])], [], [Ev CPu Ab (Lp 223 0 (puHd m v x rows (.d dnil) false [] 0)) (.code (.exit 0) (puOut v x (.d dnil) false [])), false = false ∧ Am 0 1 16]) := by kernel_rfl
theorem pv_f (m v x : Int) (rows out : A8) (g : Nat) : sV CPu 223 [pu m, .one (.mn 2 rows), .agg [du v, di x]] [(A1 223 8001, .loop [0, 1, 5, 7, 8, 9] (.exit 0) (puOut v x (.st 2 out (A1 223 39) g) false [(A1 223 39, g)])), (A1 223 45, .app false)] =
  some ([.one (.sl 2 false (out ++ [[du v, di x]]))], [], [Ev CPu Ab (Lp 223 0 (puHd m v x rows (.d dnil) false [] 0)) (.code (.exit 0) (puOut v x (.st 2 out (A1 223 39) g) false [(A1 223 39, g)])), false = false ∧ (g = g ∧ Am out.length 1 16)]) := by kernel_rfl
theorem pv_t (m v x : Int) (rows out : A8) (g : Nat) (t : AC) : sV CPu 223 [pu m, .one (.mn 2 rows), .agg [du v, di x]] [(A1 223 8001, .loop [0, 1, 5, 7, 8, 9] (.exit 0) (puOut v x (.st 2 out (A1 223 39) g) true t))] =
  some ([.one (.sl 2 false out)], [], [Ev CPu Ab (Lp 223 0 (puHd m v x rows (.d dnil) false [] 0)) (.code (.exit 0) (puOut v x (.st 2 out (A1 223 39) g) true t))]) := by kernel_rfl
def kyM (d : DV) : Option (List Ky) := match mnR 2 d with
 | some rows => Ae kyR rows
 | none => none
theorem kyR_lt1 {r : List DV} {k : Ky} (h : kyR r = some k) : k.1 < 2 ^ 64 := kyR_lt (rows := [r]) (l := [k]) (by simp only [Ae, h]) k (List.mem_singleton.2 rfl)
theorem kyM_eq {d : DV} {l : List Ky} (h : kyM d = some l) : DW d (.mn 2 (Ai l)) ∧ ∀ k ∈ l, k.1 < 2 ^ 64 := by
 unfold kyM at h
 split at h
 ·rename_i rows hr
  have := krows_of h
  refine ⟨?_, kyR_lt h⟩
  subst this
  exact mnR_dw hr
 ·cases h
theorem kyM_mn {l : List Ky} (h : ∀ k ∈ l, k.1 < 2 ^ 64) : kyM (.mn 2 (Ai l)) = some l := by simp only [kyM, mnR_mn]; exact kyR_krows h
def putV (m : Int) : Option (List Ky) → Option Ky → Option (List PV)
 | some l, some k => if 0 ≤ m ∧ m < 2 ^ 64 ∧ l.length < 2 ^ 20 then some [.one (.mn 2 (Ai (putK m.toNat k l)))] else none
 | _, _ => none
def kputS : Spec
 | [.one (.v (.int .u64 m)), .one d, .agg b] => putV m (kyM d) (kyR b)
 | _ => none
theorem kputS_at {m : Nat} {l : List Ky} {k : Ky} {d : DV} (hm : m < 2 ^ 64) (hk : k.1 < 2 ^ 64) (hl : l.length < 2 ^ 20) (hd : kyM d = some l) : kputS [pu m, .one d, .agg (kD k)] = some [.one (.mn 2 (Ai (putK m k l)))] := by
 have : (0 : Int) ≤ (m : Int) ∧ (m : Int) < 2 ^ 64 ∧ l.length < 2 ^ 20 := ⟨by omega, by exact_mod_cast hm, hl⟩
 show putV m (kyM d) (kyR (kD k)) = _
 rw [hd, kyR_kD hk]
 unfold putV
 simp only
 rw [if_pos this, Int.toNat_natCast]
theorem put_sat : AJ C0 223 kputS := AJ.ctx (C := CPu) rfl rfl (Bh (O := Ab) hPPu (fun _ _ h => h.elim) Bm fun ps rs hs => by
 unfold kputS at hs
 split at hs
 ·rename_i m d b
  unfold putV at hs
  split at hs
  ·rename_i l k h1 h2
   split at hs
   ·rename_i hc
    obtain ⟨mn, rfl⟩ := Int.eq_ofNat_of_zero_le hc.1
    have hm : mn < 2 ^ 64 := by have := hc.2.1; exact_mod_cast this
    simp only [Option.some.injEq, Int.toNat_natCast] at hs
    subst hs
    obtain ⟨hd, hv⟩ := kyM_eq h1
    have ek := kyR_eq h2
    subst ek
    have hk : k.1 < 2 ^ 64 := kyR_lt1 h2
    obtain ⟨a', t', h3, h4⟩ := pu_loop mn hm k hk l hc.2.2 hv l [] 0 false (.d dnil) [] rfl (by simp) (by simp) (.inl ⟨rfl, rfl, rfl, rfl⟩)
    have hlen := putG_len mn k l false
    refine ⟨[pu mn, .one (.mn 2 (Ai l)), .agg (kD k)], ?_⟩
    have hw : WL [.one (.v (.int .u64 mn)), .one d, .agg (kD k)] [pu mn, .one (.mn 2 (Ai l)), .agg (kD k)] := .cons (.same _) (.cons (.one hd) (.cons (.same _) .nil))
    unfold putK
    rw [List.nil_append] at h3
    generalize C7 mn k l false = G at h3 h4 hlen ⊢
    obtain ⟨o, z⟩ := G
    simp only at h3 h4 hlen ⊢
    rcases h3 with ⟨rfl, rfl, rfl, rfl⟩ | ⟨g, hne, rfl, rfl⟩
    ·refine ⟨_, hw, ?_, A4 (pv_n mn k.1 k.2 0 _) (A0 h4 (A0 ⟨rfl, by unfold Am; omega⟩ A2))⟩
     exact .cons (.one (.row 2 false _)) .nil
    ·have hl20 := hc.2.2
     cases z with
     | false =>
      refine ⟨_, hw, ?_, A4 (pv_f mn k.1 k.2 _ (Ai o) g) (A0 h4 (A0 ⟨rfl, rfl, by unfold Am; rw [AU]; omega⟩ A2))⟩
      have e : Ai (o ++ [k]) = Ai o ++ [[du k.1, di k.2]] := by simp [Ai, kD]
      simp only [Bool.false_eq_true, if_false]
      rw [e]
      exact .cons (.one (.row 2 false _)) .nil
     | true => exact ⟨_, hw, .cons (.one (.row 2 false _)) .nil, A4 (pv_t mn k.1 k.2 _ (Ai o) g _) (A0 h4 A2)⟩
   ·cases hs
  ·cases hs
 ·cases hs)
noncomputable def CSo : Ctx := Ad C0 223 kputS
theorem hPSo : Aw CSo := A7 BN (put_sat.ctx rfl rfl) (by kernel_rfl)
def soHd (m : Int) (rows : A8) (d : DV) (i : Int) : St := { σ := Ap 21 [(0, .d (.v (.int .u64 m))), (1, .d (.mn 2 rows)), (5, .d d), (6, vi i)], h := {} }
def soOut (d : DV) : St := { σ := Ap 21 [(5, .d d)], h := {} }
theorem sor_exit (m i : Int) (rows out : A8) : sM CSo 199 0 (soHd m rows (.mn 2 out) i) [(A1 199 10, .b false)] [5] = some ((.exit 0, soOut (.mn 2 out)), [], [decide (i < (rows.length : Int)) = false]) := by kernel_rfl
theorem sor_nexit (m i : Int) (rows : A8) : sM CSo 199 0 (soHd m rows dnil i) [(A1 199 10, .b false)] [5] = some ((.exit 0, soOut dnil), [], [decide (i < (rows.length : Int)) = false]) := by kernel_rfl
theorem sor_step (m i i' v x : Int) (rows out out' : A8) (X : X) (st : St) : AY CSo Ab 60 (Lp 199 0 (soHd m rows (.mn 2 out) i)) [(A1 199 10, .b true), (A1 199 17, .row [du v, di x]), (A1 199 19, .prim [.one (.mn 2 out')]), (A1 199 12, .int i'), (A1 199 8001, .loop [0, 1, 5, 6] X st)] =
  some (.code X st, [], [decide (i < (rows.length : Int)) = true, 0 ≤ i ∧ rows[i.toNat]? = some [du v, di x], kputS [pu m, .one (.mn 2 out), .agg [du v, di x]] = some [.one (.mn 2 out')], IntKind.wrap .i64 (i + 1) = i', Ev CSo Ab (Lp 199 0 (soHd m rows (.mn 2 out') i')) (.code X st)]) := by kernel_rfl
theorem sor_first (m i i' v x : Int) (rows out' : A8) (X : X) (st : St) : AY CSo Ab 60 (Lp 199 0 (soHd m rows dnil i)) [(A1 199 10, .b true), (A1 199 17, .row [du v, di x]), (A1 199 19, .prim [.one (.mn 2 out')]), (A1 199 12, .int i'), (A1 199 8001, .loop [0, 1, 5, 6] X st)] =
  some (.code X st, [], [decide (i < (rows.length : Int)) = true, 0 ≤ i ∧ rows[i.toNat]? = some [du v, di x], kputS [pu m, .one dnil, .agg [du v, di x]] = some [.one (.mn 2 out')], IntKind.wrap .i64 (i + 1) = i', Ev CSo Ab (Lp 199 0 (soHd m rows (.mn 2 out') i')) (.code X st)]) := by kernel_rfl
theorem sor_loop (m : Nat) (hm : m < 2 ^ 64) (l : List Ky) (hl : l.length < 2 ^ 19) (hv : ∀ y ∈ l, y.1 < 2 ^ 64) : ∀ (r o : List Ky) (i : Nat), l.drop i = r → i + r.length = l.length → o.length ≤ i → (∀ y ∈ o, y.1 < 2 ^ 64) →
  Ev CSo Ab (Lp 199 0 (soHd m (Ai l) (.mn 2 (Ai o)) i)) (.code (.exit 0) (soOut (.mn 2 (Ai (r.foldl (fun o k => putK m k o) o)))))
 | [], o, i, hd, hi, ho, hov => Ac (sor_exit m i _ _) (A0 (by rw [AU]; exact dge (by simp at hi; omega)) A2)
 | y :: r, o, i, hd, hi, ho, hov => by
  simp only [List.length_cons] at hi
  have hil : i < l.length := by omega
  have hy : l[i] = y := by
   rw [List.drop_eq_getElem_cons hil] at hd
   exact (List.cons.inj hd).1
  have hd' : l.drop (i + 1) = r := by
   rw [List.drop_eq_getElem_cons hil] at hd
   exact (List.cons.inj hd).2
  have hyv : y.1 < 2 ^ 64 := hv y (by rw [← hy]; exact List.getElem_mem hil)
  have hp := putK_perm m y o
  have ih := sor_loop m hm l hl hv r (putK m y o) (i + 1) hd' (by omega) (by rw [hp.length_eq]; simp; omega) (fun z hz => by
   rcases List.mem_cons.1 (hp.mem_iff.1 hz) with rfl | h
   ·exact hyv
   ·exact hov z h)
  have hb : decide ((i : Int) < ((Ai l).length : Int)) = true := by rw [AU]; exact dlt hil
  have hr : 0 ≤ (i : Int) ∧ (Ai l)[((i : Int)).toNat]? = some (kD y) := ⟨by omega, by simp [Ai, List.getElem?_eq_getElem hil, hy]⟩
  exact Aa _ _ _ _ _ _ (sor_step m i ((i + 1 : Nat) : Int) y.1 y.2 _ _ _ _ _) (A0 hb (A0 hr (A0 (kputS_at hm hyv (by omega) (kyM_mn hov)) (A0 (Ag (by omega)) (A0 ih A2)))))
theorem sor_n (m : Int) (rows : A8) : sV CSo 199 [pu m, .one (.mn 2 rows)] [(A1 199 8001, .loop [0, 1, 5, 6] (.exit 0) (soOut dnil))] = some ([.one dnil], [], [Ev CSo Ab (Lp 199 0 (soHd m rows dnil 0)) (.code (.exit 0) (soOut dnil))]) := by kernel_rfl
theorem sor_m (m : Int) (rows out : A8) : sV CSo 199 [pu m, .one (.mn 2 rows)] [(A1 199 8001, .loop [0, 1, 5, 6] (.exit 0) (soOut (.mn 2 out)))] = some ([.one (.mn 2 out)], [], [Ev CSo Ab (Lp 199 0 (soHd m rows dnil 0)) (.code (.exit 0) (soOut (.mn 2 out)))]) := by kernel_rfl
def srtV (m : Int) : Option (List Ky) → Option (List PV)
 | some l => if 0 ≤ m ∧ m < 2 ^ 64 ∧ l.length < 2 ^ 19 then some [.one (.mn 2 (Ai (srtD m.toNat l)))] else none
 | none => none
def srtS : Spec
 | [.one (.v (.int .u64 m)), .one d] => srtV m (kyM d)
 | _ => none
theorem srtS_at {m : Nat} {l : List Ky} {d : DV} (hm : m < 2 ^ 64) (hl : l.length < 2 ^ 19) (hd : kyM d = some l) : srtS [pu m, .one d] = some [.one (.mn 2 (Ai (srtD m l)))] := by
 have : (0 : Int) ≤ (m : Int) ∧ (m : Int) < 2 ^ 64 ∧ l.length < 2 ^ 19 := ⟨by omega, by exact_mod_cast hm, hl⟩
 show srtV m (kyM d) = _
 rw [hd]
 unfold srtV
 simp only
 rw [if_pos this, Int.toNat_natCast]
theorem sort_sat : AJ C0 199 srtS := AJ.ctx (C := CSo) rfl rfl (Bh (O := Ab) hPSo (fun _ _ h => h.elim) Bm fun ps rs hs => by
 unfold srtS at hs
 split at hs
 ·rename_i m d
  unfold srtV at hs
  split at hs
  ·rename_i l h1
   split at hs
   ·rename_i hc
    obtain ⟨mn, rfl⟩ := Int.eq_ofNat_of_zero_le hc.1
    have hm : mn < 2 ^ 64 := by have := hc.2.1; exact_mod_cast this
    have hl := hc.2.2
    simp only [Option.some.injEq, Int.toNat_natCast] at hs
    subst hs
    obtain ⟨hd, hv⟩ := kyM_eq h1
    refine ⟨[pu mn, .one (.mn 2 (Ai l))], ?_⟩
    have hw : WL [.one (.v (.int .u64 mn)), .one d] [pu mn, .one (.mn 2 (Ai l))] := .cons (.same _) (.cons (.one hd) .nil)
    cases l with
    | nil => exact ⟨_, hw, .cons (.one (.nil 2)) .nil, A4 (sor_n mn _) (A0 (Ac (sor_nexit mn 0 _) (A0 rfl A2)) A2)⟩
    | cons y r =>
     have hyv := hv y (by simp)
     have hp := putK_perm mn y []
     have hk := sor_loop mn hm (y :: r) hl hv r (putK mn y []) 1 rfl (by simp; omega) (by rw [hp.length_eq]; simp) (fun z hz => by
      have := hp.mem_iff.1 hz
      simp only [List.mem_singleton] at this
      rw [this]; exact hyv)
     have h0 : Ev CSo Ab (Lp 199 0 (soHd mn (Ai (y :: r)) dnil 0)) (.code (.exit 0) (soOut (.mn 2 (Ai (srtD mn (y :: r)))))) :=
      Aa _ _ _ _ _ _ (sor_first mn 0 1 y.1 y.2 (Ai (y :: r)) _ _ _) (A0 (decide_eq_true (by rw [AU, List.length_cons]; omega)) (A0 ⟨by omega, rfl⟩ (A0 (kputS_at hm hyv (by simp) rfl) (A0 rfl (A0 hk A2)))))
     exact ⟨_, hw, WL.same _, A4 (sor_m mn _ _) (A0 h0 A2)⟩
   ·cases hs
  ·cases hs
 ·cases hs)
end Go.Ev
