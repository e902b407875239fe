/- What the proof of this claim needs: part MF. No conditions. -/
import Derived.Test.YtbgdnghnfdijnaaGreatDoorME
set_option linter.unusedVariables false
set_option linter.unusedSimpArgs false
namespace Go.Ev
open Go Go.RowKit Go.Proofs
structure Que where
 root : Int
 ns : List Nod
 cur : Int
 v : Nat
 m : Nat
 load : Int
 ws : List Int
def Que.cs (q : Que) : List DV := [di q.root, .mn 6 (A9 q.ns), di q.cur, du q.v, du q.m, di q.load, .mn 1 (A6 q.ws)]
structure Que.Ok (q : Que) : Prop where
 v : q.v < 2 ^ 64
 m : q.m < 2 ^ 64
 n : q.ns.length < 2 ^ 30
 ns : ∀ n ∈ q.ns, n.v < 2 ^ 64
def queR : List DV → Option Que
 | [.v (.int .i64 root), .mn 6 rows, .v (.int .i64 cur), .v (.int .u64 v), .v (.int .u64 m), .v (.int .i64 load), .mn 1 wr] => match Ae nodR rows, Ae intR wr with
  | some ns, some ws => if (0 ≤ v ∧ v < 2 ^ 64) ∧ (0 ≤ m ∧ m < 2 ^ 64) ∧ ns.length < 2 ^ 30 then some ⟨root, ns, cur, v.toNat, m.toNat, load, ws⟩ else none
  | _, _ => none
 | _ => none
theorem queR_eq {cs : List DV} {q : Que} (h : queR cs = some q) : cs = q.cs ∧ q.Ok := by
 unfold queR at h
 split at h
 ·split at h
  ·rename_i root rows cur v m load wr x y ns ws h1 h2
   split at h
   ·rename_i hc
    obtain ⟨⟨a1, a2⟩, ⟨a3, a4⟩, a5⟩ := hc
    obtain ⟨vn, rfl⟩ := Int.eq_ofNat_of_zero_le a1
    obtain ⟨mn, rfl⟩ := Int.eq_ofNat_of_zero_le a3
    simp only [Option.some.injEq, Int.toNat_natCast] at h
    subst h
    obtain ⟨rfl, hv⟩ := nrows_of h1
    obtain rfl := intsR_eq h2
    exact ⟨rfl, ⟨by exact_mod_cast a2, by exact_mod_cast a4, a5, hv⟩⟩
   ·cases h
  ·cases h
 ·cases h
theorem queR_cs {q : Que} (h : q.Ok) : queR q.cs = some q := by
 have : (0 ≤ (q.v : Int) ∧ (q.v : Int) < 2 ^ 64) ∧ (0 ≤ (q.m : Int) ∧ (q.m : Int) < 2 ^ 64) ∧ q.ns.length < 2 ^ 30 := ⟨⟨by omega, by exact_mod_cast h.v⟩, ⟨by omega, by exact_mod_cast h.m⟩, h.n⟩
 simp only [Que.cs, queR, di, du, C8 h.ns, Br]
 rw [if_pos this]
 simp
def Que.keys (q : Que) : List Ky := keysO q.root q.ns ++ (if 0 ≤ q.cur then [(q.v, q.cur)] else [])
def Que.here (q : Que) (i : Nat) : Bool := (i : Int) == q.cur || Bw q.ns i
def wOK (is : Bool) (w : Int) : Bool := if is then decide (1 ≤ w ∧ w ≤ 88761) else w == 0
def wAt (q : Que) (i : Nat) : Int := (q.ws[i]?).getD 0
def Que.wsFrom (q : Que) (i : Nat) : Bool := ((List.range q.ns.length).drop i).all fun j => wOK (q.here j) (wAt q j)
def Que.sumTo (q : Que) : Nat → Int
 | 0 => 0
 | i + 1 => q.sumTo i + wAt q i
def farK (m : Nat) (k : Ky) : Bool := decide (BW k.1 m < -1125899906842624) || decide (BW k.1 m > 1125899906842624)
def Que.right (q : Que) : Bool :=
 treeR q.root q.ns q.m && (decide (q.ws.length = q.ns.length) && (decide (-1 ≤ q.cur) && (decide (q.cur < q.ns.length) && (!(decide (q.cur = -1) && q.v != 0) && (!(decide (0 ≤ q.cur) && Bw q.ns q.cur.toNat) &&
  (q.wsFrom 0 && (q.keys.all (fun k => !farK q.m k) && decide (q.sumTo q.ns.length = q.load))))))))
theorem treeR_len {root : Int} {ns : List Nod} {m : Nat} (h : treeR root ns m = true) : ns.length ≤ 64 := by
 unfold treeR at h
 split at h
 ·cases h
 ·rename_i l ho
  exact (ordO_tree ho).1
theorem keys_lt {q : Que} (h : q.Ok) : ∀ k ∈ q.keys, k.1 < 2 ^ 64 := fun k hk => by
 rcases List.mem_append.1 hk with hk | hk
 ·exact keysO_lt h.ns k hk
 ·split at hk
  ·simp only [List.mem_singleton] at hk
   rw [hk]; exact h.v
  ·cases hk
theorem keys_len (q : Que) : q.keys.length ≤ 65 := by
 unfold Que.keys
 have := keysO_len (root := q.root) (ns := q.ns)
 rw [List.length_append]
 split <;> simp <;> omega
noncomputable def CKe : Ctx := Ad (Ad C0 198 waS) 199 srtS
theorem hPKe : Aw CKe := A7 (A7 BN (walkD_sat.ctx rfl rfl) (by kernel_rfl)) (sort_sat.ctx rfl rfl) (by kernel_rfl)
def qA (root cur v m load : Int) (rows ws : A8) : List PV := [.agg [di root, .mn 6 rows, di cur, du v, du m, di load, .mn 1 ws]]
theorem ke_no (root cur v m load : Int) (rows ws ks out : A8) : Cs CKe Ab 60 154 (qA root cur v m load rows ws) [(A1 154 6, .prim [.one (.mn 2 ks)]), (A1 154 9, .b false), (A1 154 22, .prim [.one (.mn 2 out)])] =
  some ([.one (.mn 2 out)], [], [waS [.agg [di root, .mn 6 rows]] = some [.one (.mn 2 ks)], decide (cur ≥ 0) = false, srtS [pu m, .one (.mn 2 ks)] = some [.one (.mn 2 out)]]) := by kernel_rfl
theorem ke_n (root cur v m load : Int) (rows ws ks out : A8) : Cs CKe Ab 60 154 (qA root cur v m load rows ws) [(A1 154 6, .prim [.one (.mn 2 ks)]), (A1 154 9, .b true), (A1 154 11, .app true), (A1 154 18, .app false), (A1 154 22, .prim [.one (.mn 2 out)])] =
  some ([.one (.mn 2 out)], [], [waS [.agg [di root, .mn 6 rows]] = some [.one (.mn 2 ks)], decide (cur ≥ 0) = true, ks.isEmpty = true, false = false ∧ Am 0 1 16, srtS [pu m, .one (.sl 2 false [[du v, di cur]])] = some [.one (.mn 2 out)]]) := by kernel_rfl
theorem ke_s (root cur v m load : Int) (rows ws ks out : A8) : Cs CKe Ab 60 154 (qA root cur v m load rows ws) [(A1 154 6, .prim [.one (.mn 2 ks)]), (A1 154 9, .b true), (A1 154 11, .app false), (A1 154 18, .app false), (A1 154 22, .prim [.one (.mn 2 out)])] =
  some ([.one (.mn 2 out)], [], [waS [.agg [di root, .mn 6 rows]] = some [.one (.mn 2 ks)], decide (cur ≥ 0) = true, ks.isEmpty = false ∧ Am 0 ks.length 16, false = false ∧ (1 = 1 ∧ Am ks.length 1 16), srtS [pu m, .one (.sl 2 false (ks ++ [[du v, di cur]]))] = some [.one (.mn 2 out)]]) := by kernel_rfl
def queV (f : Que → List PV) : Option Que → Option (List PV)
 | some q => some (f q)
 | none => none
def keS : Spec
 | [.agg cs] => queV (fun q => [.one (.mn 2 (Ai (srtD q.m q.keys)))]) (queR cs)
 | _ => none
theorem kyM_sl {l : List Ky} {f : Bool} (h : ∀ k ∈ l, k.1 < 2 ^ 64) : kyM (.sl 2 f (Ai l)) = some l := by simp only [kyM, mnR_sl]; exact kyR_krows h
theorem keysD_sat : AJ C0 154 keS := AJ.ctx (C := CKe) rfl rfl (Af (O := Ab) hPKe (fun _ _ h => h.elim) Bm fun ps rs hs => by
 unfold keS at hs
 split at hs
 ·rename_i cs
  unfold queV at hs
  split at hs
  ·rename_i q hq
   simp only [Option.some.injEq] at hs
   subst hs
   obtain ⟨rfl, ok⟩ := queR_eq hq
   have hw := waS_at (root := q.root) ok.ns
   have hlt := keys_lt ok
   have hlen := keys_len q
   have hkl := keysO_len (root := q.root) (ns := q.ns)
   unfold Que.keys at hlt hlen ⊢
   by_cases hc : 0 ≤ q.cur
   ·rw [if_pos hc] at hlt hlen ⊢
    have e : Ai (keysO q.root q.ns ++ [(q.v, q.cur)]) = Ai (keysO q.root q.ns) ++ [[du q.v, di q.cur]] := by simp [Ai, kD]
    have hs := srtS_at (d := .sl 2 false (Ai (keysO q.root q.ns ++ [(q.v, q.cur)]))) ok.m (by omega) (kyM_sl hlt)
    rw [e] at hs
    have fit : ∀ {a b : Nat}, a ≤ 64 → b ≤ 64 → Am a b 16 := fun h1 h2 => by unfold Am; omega
    generalize hks : keysO q.root q.ns = ks at hs hw hkl ⊢
    cases ks with
    | nil => exact A4 (ke_n q.root q.cur q.v q.m q.load _ _ _ _) (A0 hw (A0 (decide_eq_true (by omega)) (A0 rfl (A0 ⟨rfl, fit (by omega) (by omega)⟩ (A0 hs A2)))))
    | cons k ks => exact A4 (ke_s q.root q.cur q.v q.m q.load _ _ _ _) (A0 hw (A0 (decide_eq_true (by omega)) (A0 ⟨rfl, fit (by omega) (by rw [AU]; omega)⟩ (A0 ⟨rfl, rfl, fit (by rw [AU]; omega) (by omega)⟩ (A0 hs A2)))))
   ·rw [if_neg hc, List.append_nil] at hlt hlen ⊢
    have hs := srtS_at (d := .mn 2 (Ai (keysO q.root q.ns))) ok.m (by omega) (kyM_mn hlt)
    exact A4 (ke_no q.root q.cur q.v q.m q.load _ _ _ _) (A0 hw (A0 (decide_eq_false (by omega)) (A0 hs A2)))
  ·cases hs
 ·cases hs)
def heV (i : Int) : Option Que → Option (List PV)
 | some q => if 0 ≤ i ∧ i < q.ns.length then some [A3 (q.here i.toNat)] else none
 | none => none
def heS : Spec
 | [.agg cs, .one (.v (.int .i64 i))] => heV i (queR cs)
 | _ => none
theorem he_t (root cur v m load i : Int) (rows ws : A8) : Cs C0 Ab 60 153 (qA root cur v m load rows ws ++ [A5 i]) [(A1 153 8, .b true), (A1 153 11, .b true)] = some ([A3 true], [], [(i == cur) = true, decide (i ≥ 0) = true]) := by kernel_rfl
theorem he_f (root cur v m load i : Int) (rows ws : A8) (b r : Bool) (nv nl nr nu : Int) : Cs C0 Ab 60 153 (qA root cur v m load rows ws ++ [A5 i]) [(A1 153 8, .b false), (A1 153 15, .b true), (A1 153 22, .b true), (A1 153 29, .row (BU b r nv nl nr nu))] =
  some ([A3 b], [], [(i == cur) = false, decide (i ≥ 0) = true, decide (i < (rows.length : Int)) = true, 0 ≤ i ∧ rows[i.toNat]? = some (BU b r nv nl nr nu)]) := by kernel_rfl
theorem hereD_sat : AJ C0 153 heS := Af (O := Ab) BN (fun _ _ h => h.elim) Bm fun ps rs hs => by
 unfold heS at hs
 split at hs
 ·rename_i cs i
  unfold heV at hs
  split at hs
  ·rename_i q hq
   split at hs
   ·rename_i hc
    obtain ⟨j, rfl⟩ := Int.eq_ofNat_of_zero_le hc.1
    have hj : j < q.ns.length := by omega
    simp only [Option.some.injEq, Int.toNat_natCast] at hs
    subst hs
    obtain ⟨rfl, ok⟩ := queR_eq hq
    unfold Que.here
    have h0 : decide ((j : Int) ≥ 0) = true := decide_eq_true (by omega)
    cases hb : ((j : Int) == q.cur) with
    | true => exact A4 (he_t q.root q.cur q.v q.m q.load j _ _) (A0 hb (A0 h0 A2))
    | false =>
     have hi : Bw q.ns j = q.ns[j].inn := by simp only [Bw, List.getElem?_eq_getElem hj]
     rw [Bool.false_or, hi]
     exact A4 (he_f q.root q.cur q.v q.m q.load j _ _ q.ns[j].inn q.ns[j].red q.ns[j].v q.ns[j].l q.ns[j].r q.ns[j].u) (A0 hb (A0 h0 (A0 (by rw [Ay]; exact dlt hj) (A0 ⟨by omega, AS (List.getElem?_eq_getElem hj)⟩ A2))))
   ·cases hs
  ·cases hs
 ·cases hs
theorem heS_at {q : Que} (ok : q.Ok) {j : Nat} (hj : j < q.ns.length) : heS [.agg q.cs, A5 j] = some [A3 (q.here j)] := by
 show heV j (queR q.cs) = _
 rw [queR_cs ok]
 unfold heV
 simp only
 rw [if_pos ⟨by omega, by omega⟩, Int.toNat_natCast]
theorem keS_at {q : Que} (ok : q.Ok) : keS [.agg q.cs] = some [.one (.mn 2 (Ai (srtD q.m q.keys)))] := by
 show queV _ (queR q.cs) = _
 rw [queR_cs ok]; rfl
theorem beqd (a b : Int) : (a == b) = decide (a = b) := by
 by_cases h : a = b <;> simp [h]
noncomputable def CQd : Ctx := Ad (Ad (Ad (Ad C0 152 treS) 153 heS) 154 keS) 82 lagS
theorem hPQd : Aw CQd := A7 (A7 (A7 (A7 BN (treeD_sat.ctx rfl rfl) (by kernel_rfl)) (hereD_sat.ctx rfl rfl) (by kernel_rfl)) (keysD_sat.ctx rfl rfl) (by kernel_rfl)) (lag_sat.ctx rfl rfl) (by kernel_rfl)
def Bs (root cur v m load : Int) (rows ws : A8) : List DV := [di root, .mn 6 rows, di cur, du v, du m, di load, .mn 1 ws]
def qdH (root cur v m load : Int) (rows ws : A8) : H := { objs := [(A1 87 1, 1, [.cells ((Bs root cur v m load rows ws).map .d) false])] }
def qd0 (root cur v m load : Int) (rows ws : A8) (s i : Int) : St := { σ := Ap 123 [(1, .ptr (A1 87 1) 0 0), (3, vi rows.length), (5, vi s), (6, vi i)], h := qdH root cur v m load rows ws }
def qdO (root cur v m load : Int) (rows ws : A8) (s : Int) : St := { σ := Ap 123 [(1, .ptr (A1 87 1) 0 0), (5, vi s)], h := qdH root cur v m load rows ws }
def qdR (root cur v m load : Int) (rows ws : A8) : St := { σ := Ap 123 [(2, vb false)], h := qdH root cur v m load rows ws }
def qd1 (root cur v m load : Int) (rows ws ks : A8) (s i : Int) : St := { σ := Ap 123 [(1, .ptr (A1 87 1) 0 0), (5, vi s), (8, .d (.mn 2 ks)), (9, vi i)], h := qdH root cur v m load rows ws }
noncomputable def q0C (root cur v m load : Int) (rows ws : A8) (s i : Int) (sc : Ah) (keep : List Nat) : SM (X × St) := symM CQd Ab 60 87 false (BE Tryz.prog 87 0) (qd0 root cur v m load rows ws s i) sc keep
theorem q0_exit (root cur v m load s i : Int) (rows ws : A8) : q0C root cur v m load rows ws s i [(A1 87 65, .b false)] [1, 5] = some ((.exit 0, qdO root cur v m load rows ws s), [], [decide (i < (rows.length : Int)) = false]) := by kernel_rfl
def q0S (w : Int) (z : Bool) (l : Ah) : Ah := (A1 87 65, .b true) :: (A1 87 71, .row [di w]) :: (A1 87 75, .prim [A3 z]) :: l
def q0O (root cur v m load i w : Int) (rows ws : A8) (z : Bool) (l : List Prop) : List Prop := (decide (i < (rows.length : Int)) = true) :: (0 ≤ i ∧ ws[i.toNat]? = some [di w]) :: (heS [.agg (Bs root cur v m load rows ws), A5 i] = some [A3 z]) :: l
theorem q0_1 (root cur v m load s i w : Int) (rows ws : A8) : q0C root cur v m load rows ws s i (q0S w true [(A1 87 78, .b true)]) [2] = some ((.ret, qdR root cur v m load rows ws), [], q0O root cur v m load i w rows ws true [decide (w < 1) = true]) := by kernel_rfl
theorem q0_2 (root cur v m load s i w : Int) (rows ws : A8) : q0C root cur v m load rows ws s i (q0S w true [(A1 87 78, .b false), (A1 87 81, .b true)]) [2] = some ((.ret, qdR root cur v m load rows ws), [], q0O root cur v m load i w rows ws true [decide (w < 1) = false, decide (w > 88761) = true]) := by kernel_rfl
theorem q0_3 (root cur v m load s i w : Int) (rows ws : A8) : q0C root cur v m load rows ws s i (q0S w false [(A1 87 87, .prim [A3 false]), (A1 87 91, .b true)]) [2] = some ((.ret, qdR root cur v m load rows ws), [], q0O root cur v m load i w rows ws false [heS [.agg (Bs root cur v m load rows ws), A5 i] = some [A3 false], (w != 0) = true]) := by kernel_rfl
def q0N (s' i' : Int) (X : X) (st : St) : Ah := [(A1 87 96, .int s'), (A1 87 67, .int i'), (A1 87 8001, .loop [1, 3, 5, 6] X st)]
def q0K (root cur v m load s i w s' i' : Int) (rows ws : A8) (X : X) (st : St) : List Prop := [IntKind.wrap .i64 (s + w) = s', IntKind.wrap .i64 (i + 1) = i', Ev CQd Ab (.code 87 false (BE Tryz.prog 87 0) (qd0 root cur v m load rows ws s' i')) (.code X st)]
theorem q0_t (root cur v m load s i w s' i' : Int) (rows ws : A8) (X : X) (st : St) : AY CQd Ab 60 (.code 87 false (BE Tryz.prog 87 0) (qd0 root cur v m load rows ws s i)) (q0S w true ([(A1 87 78, .b false), (A1 87 81, .b false), (A1 87 87, .prim [A3 true])] ++ q0N s' i' X st)) =
  some (.code X st, [], q0O root cur v m load i w rows ws true ([decide (w < 1) = false, decide (w > 88761) = false, heS [.agg (Bs root cur v m load rows ws), A5 i] = some [A3 true]] ++ q0K root cur v m load s i w s' i' rows ws X st)) := by kernel_rfl
theorem q0_f (root cur v m load s i w s' i' : Int) (rows ws : A8) (X : X) (st : St) : AY CQd Ab 60 (.code 87 false (BE Tryz.prog 87 0) (qd0 root cur v m load rows ws s i)) (q0S w false ([(A1 87 87, .prim [A3 false]), (A1 87 91, .b false)] ++ q0N s' i' X st)) =
  some (.code X st, [], q0O root cur v m load i w rows ws false ([heS [.agg (Bs root cur v m load rows ws), A5 i] = some [A3 false], (w != 0) = false] ++ q0K root cur v m load s i w s' i' rows ws X st)) := by kernel_rfl
theorem q1_exit (root cur v m load s i : Int) (rows ws ks : A8) : symM CQd Ab 60 87 false (BE Tryz.prog 87 1) (qd1 root cur v m load rows ws ks s i) [(A1 87 102, .b false)] [1, 5] = some ((.exit 2, qdO root cur v m load rows ws s), [], [decide (i < (ks.length : Int)) = false]) := by kernel_rfl
def q1S (w y L : Int) (l : Ah) : Ah := (A1 87 102, .b true) :: (A1 87 107, .row [du w, di y]) :: (A1 87 112, .prim [A5 L]) :: l
def q1O (m i w y L : Int) (ks : A8) (l : List Prop) : List Prop := (decide (i < (ks.length : Int)) = true) :: (0 ≤ i ∧ ks[i.toNat]? = some [du w, di y]) :: (lagS [pu w, pu m] = some [A5 L]) :: l
theorem q1_1 (root cur v m load s i w y L : Int) (rows ws ks : A8) : symM CQd Ab 60 87 false (BE Tryz.prog 87 1) (qd1 root cur v m load rows ws ks s i) (q1S w y L [(A1 87 114, .b true)]) [2] = some ((.ret, qdR root cur v m load rows ws), [], q1O m i w y L ks [decide (L < -1125899906842624) = true]) := by kernel_rfl
theorem q1_2 (root cur v m load s i w y L : Int) (rows ws ks : A8) : symM CQd Ab 60 87 false (BE Tryz.prog 87 1) (qd1 root cur v m load rows ws ks s i) (q1S w y L [(A1 87 114, .b false), (A1 87 117, .b true)]) [2] = some ((.ret, qdR root cur v m load rows ws), [], q1O m i w y L ks [decide (L < -1125899906842624) = false, decide (L > 1125899906842624) = true]) := by kernel_rfl
theorem q1_3 (root cur v m load s i w y L i' : Int) (rows ws ks : A8) (X : X) (st : St) : AY CQd Ab 60 (.code 87 false (BE Tryz.prog 87 1) (qd1 root cur v m load rows ws ks s i)) (q1S w y L [(A1 87 114, .b false), (A1 87 117, .b false), (A1 87 104, .int i'), (A1 87 8001, .loop [1, 5, 8, 9] X st)]) =
  some (.code X st, [], q1O m i w y L ks [decide (L < -1125899906842624) = false, decide (L > 1125899906842624) = false, IntKind.wrap .i64 (i + 1) = i', Ev CQd Ab (.code 87 false (BE Tryz.prog 87 1) (qd1 root cur v m load rows ws ks s i')) (.code X st)]) := by kernel_rfl
noncomputable def qV (root cur v m load : Int) (rows ws : A8) (sc : Ah) : SM (List PV) := Cs CQd Ab 60 87 (qA root cur v m load rows ws) sc
def qVT (root m : Int) (rows : A8) (z : Bool) : Prop := treS [.agg [di root, .mn 6 rows], pu m] = some [A3 z]
theorem qv_1 (root cur v m load : Int) (rows ws : A8) : qV root cur v m load rows ws [(A1 87 19, .prim [A3 false])] = some ([A3 false], [], [qVT root m rows false]) := by kernel_rfl
theorem qv_2 (root cur v m load : Int) (rows ws : A8) : qV root cur v m load rows ws [(A1 87 19, .prim [A3 true]), (A1 87 27, .b true)] = some ([A3 false], [], [qVT root m rows true, ((ws.length : Int) != (rows.length : Int)) = true]) := by kernel_rfl
theorem qv_3 (root cur v m load : Int) (rows ws : A8) : qV root cur v m load rows ws [(A1 87 19, .prim [A3 true]), (A1 87 27, .b false), (A1 87 32, .b true)] = some ([A3 false], [], [qVT root m rows true, ((ws.length : Int) != (rows.length : Int)) = false, decide (cur < -1) = true]) := by kernel_rfl
theorem qv_4 (root cur v m load : Int) (rows ws : A8) : qV root cur v m load rows ws [(A1 87 19, .prim [A3 true]), (A1 87 27, .b false), (A1 87 32, .b false), (A1 87 38, .b true)] = some ([A3 false], [], [qVT root m rows true, ((ws.length : Int) != (rows.length : Int)) = false, decide (cur < -1) = false, decide (cur ≥ (rows.length : Int)) = true]) := by kernel_rfl
theorem qv_5 (root cur v m load : Int) (rows ws : A8) : qV root cur v m load rows ws [(A1 87 19, .prim [A3 true]), (A1 87 27, .b false), (A1 87 32, .b false), (A1 87 38, .b false), (A1 87 43, .b true), (A1 87 47, .b true)] = some ([A3 false], [], [qVT root m rows true, ((ws.length : Int) != (rows.length : Int)) = false, decide (cur < -1) = false, decide (cur ≥ (rows.length : Int)) = false, (cur == -1) = true, (v != 0) = true]) := by kernel_rfl
theorem qv_6 (root cur v m load : Int) (rows ws : A8) (r : Bool) (nv nl nr nu : Int) : qV root cur v m load rows ws [(A1 87 19, .prim [A3 true]), (A1 87 27, .b false), (A1 87 32, .b false), (A1 87 38, .b false), (A1 87 43, .b false), (A1 87 52, .b true), (A1 87 59, .row (BU true r nv nl nr nu))] = some ([A3 false], [], [qVT root m rows true, ((ws.length : Int) != (rows.length : Int)) = false, decide (cur < -1) = false, decide (cur ≥ (rows.length : Int)) = false, (cur == -1) = false, decide (cur ≥ 0) = true, 0 ≤ cur ∧ rows[cur.toNat]? = some (BU true r nv nl nr nu)]) := by kernel_rfl
theorem qv_7n (root cur v m load : Int) (rows ws : A8) : qV root cur v m load rows ws [(A1 87 19, .prim [A3 true]), (A1 87 27, .b false), (A1 87 32, .b false), (A1 87 38, .b false), (A1 87 43, .b true), (A1 87 47, .b false), (A1 87 52, .b false), (A1 87 8001, .loop [1, 3, 5, 6] .ret (qdR root cur v m load rows ws))] = some ([A3 false], [], [qVT root m rows true, ((ws.length : Int) != (rows.length : Int)) = false, decide (cur < -1) = false, decide (cur ≥ (rows.length : Int)) = false, (cur == -1) = true, (v != 0) = false, decide (cur ≥ 0) = false, Ev CQd Ab (.code 87 false (BE Tryz.prog 87 0) (qd0 root cur v m load rows ws 0 0)) (.code .ret (qdR root cur v m load rows ws))]) := by kernel_rfl
theorem qv_8n (root cur v m load : Int) (rows ws : A8) (s : Int) (ks : A8) : qV root cur v m load rows ws [(A1 87 19, .prim [A3 true]), (A1 87 27, .b false), (A1 87 32, .b false), (A1 87 38, .b false), (A1 87 43, .b true), (A1 87 47, .b false), (A1 87 52, .b false), (A1 87 8001, .loop [1, 3, 5, 6] (.exit 0) (qdO root cur v m load rows ws s)), (A1 87 98, .prim [.one (.mn 2 ks)]), (A1 87 8001, .loop [1, 5, 8, 9] .ret (qdR root cur v m load rows ws))] = some ([A3 false], [], [qVT root m rows true, ((ws.length : Int) != (rows.length : Int)) = false, decide (cur < -1) = false, decide (cur ≥ (rows.length : Int)) = false, (cur == -1) = true, (v != 0) = false, decide (cur ≥ 0) = false, Ev CQd Ab (.code 87 false (BE Tryz.prog 87 0) (qd0 root cur v m load rows ws 0 0)) (.code (.exit 0) (qdO root cur v m load rows ws s)), keS [.agg (Bs root cur v m load rows ws)] = some [.one (.mn 2 ks)], Ev CQd Ab (.code 87 false (BE Tryz.prog 87 1) (qd1 root cur v m load rows ws ks s 0)) (.code .ret (qdR root cur v m load rows ws))]) := by kernel_rfl
theorem qv_9n (root cur v m load : Int) (rows ws : A8) (s : Int) (ks : A8) (z : Bool) : qV root cur v m load rows ws [(A1 87 19, .prim [A3 true]), (A1 87 27, .b false), (A1 87 32, .b false), (A1 87 38, .b false), (A1 87 43, .b true), (A1 87 47, .b false), (A1 87 52, .b false), (A1 87 8001, .loop [1, 3, 5, 6] (.exit 0) (qdO root cur v m load rows ws s)), (A1 87 98, .prim [.one (.mn 2 ks)]), (A1 87 8001, .loop [1, 5, 8, 9] (.exit 2) (qdO root cur v m load rows ws s)), (A1 87 122, .b z)] = some ([A3 z], [], [qVT root m rows true, ((ws.length : Int) != (rows.length : Int)) = false, decide (cur < -1) = false, decide (cur ≥ (rows.length : Int)) = false, (cur == -1) = true, (v != 0) = false, decide (cur ≥ 0) = false, Ev CQd Ab (.code 87 false (BE Tryz.prog 87 0) (qd0 root cur v m load rows ws 0 0)) (.code (.exit 0) (qdO root cur v m load rows ws s)), keS [.agg (Bs root cur v m load rows ws)] = some [.one (.mn 2 ks)], Ev CQd Ab (.code 87 false (BE Tryz.prog 87 1) (qd1 root cur v m load rows ws ks s 0)) (.code (.exit 2) (qdO root cur v m load rows ws s)), (s == load) = z]) := by kernel_rfl
theorem qv_7c (root cur v m load : Int) (rows ws : A8) (r : Bool) (nv nl nr nu : Int) : qV root cur v m load rows ws [(A1 87 19, .prim [A3 true]), (A1 87 27, .b false), (A1 87 32, .b false), (A1 87 38, .b false), (A1 87 43, .b false), (A1 87 52, .b true), (A1 87 59, .row (BU false r nv nl nr nu)), (A1 87 8001, .loop [1, 3, 5, 6] .ret (qdR root cur v m load rows ws))] = some ([A3 false], [], [qVT root m rows true, ((ws.length : Int) != (rows.length : Int)) = false, decide (cur < -1) = false, decide (cur ≥ (rows.length : Int)) = false, (cur == -1) = false, decide (cur ≥ 0) = true, 0 ≤ cur ∧ rows[cur.toNat]? = some (BU false r nv nl nr nu), Ev CQd Ab (.code 87 false (BE Tryz.prog 87 0) (qd0 root cur v m load rows ws 0 0)) (.code .ret (qdR root cur v m load rows ws))]) := by kernel_rfl
theorem qv_8c (root cur v m load : Int) (rows ws : A8) (r : Bool) (nv nl nr nu : Int) (s : Int) (ks : A8) : qV root cur v m load rows ws [(A1 87 19, .prim [A3 true]), (A1 87 27, .b false), (A1 87 32, .b false), (A1 87 38, .b false), (A1 87 43, .b false), (A1 87 52, .b true), (A1 87 59, .row (BU false r nv nl nr nu)), (A1 87 8001, .loop [1, 3, 5, 6] (.exit 0) (qdO root cur v m load rows ws s)), (A1 87 98, .prim [.one (.mn 2 ks)]), (A1 87 8001, .loop [1, 5, 8, 9] .ret (qdR root cur v m load rows ws))] = some ([A3 false], [], [qVT root m rows true, ((ws.length : Int) != (rows.length : Int)) = false, decide (cur < -1) = false, decide (cur ≥ (rows.length : Int)) = false, (cur == -1) = false, decide (cur ≥ 0) = true, 0 ≤ cur ∧ rows[cur.toNat]? = some (BU false r nv nl nr nu), Ev CQd Ab (.code 87 false (BE Tryz.prog 87 0) (qd0 root cur v m load rows ws 0 0)) (.code (.exit 0) (qdO root cur v m load rows ws s)), keS [.agg (Bs root cur v m load rows ws)] = some [.one (.mn 2 ks)], Ev CQd Ab (.code 87 false (BE Tryz.prog 87 1) (qd1 root cur v m load rows ws ks s 0)) (.code .ret (qdR root cur v m load rows ws))]) := by kernel_rfl
theorem qv_9c (root cur v m load : Int) (rows ws : A8) (r : Bool) (nv nl nr nu : Int) (s : Int) (ks : A8) (z : Bool) : qV root cur v m load rows ws [(A1 87 19, .prim [A3 true]), (A1 87 27, .b false), (A1 87 32, .b false), (A1 87 38, .b false), (A1 87 43, .b false), (A1 87 52, .b true), (A1 87 59, .row (BU false r nv nl nr nu)), (A1 87 8001, .loop [1, 3, 5, 6] (.exit 0) (qdO root cur v m load rows ws s)), (A1 87 98, .prim [.one (.mn 2 ks)]), (A1 87 8001, .loop [1, 5, 8, 9] (.exit 2) (qdO root cur v m load rows ws s)), (A1 87 122, .b z)] = some ([A3 z], [], [qVT root m rows true, ((ws.length : Int) != (rows.length : Int)) = false, decide (cur < -1) = false, decide (cur ≥ (rows.length : Int)) = false, (cur == -1) = false, decide (cur ≥ 0) = true, 0 ≤ cur ∧ rows[cur.toNat]? = some (BU false r nv nl nr nu), Ev CQd Ab (.code 87 false (BE Tryz.prog 87 0) (qd0 root cur v m load rows ws 0 0)) (.code (.exit 0) (qdO root cur v m load rows ws s)), keS [.agg (Bs root cur v m load rows ws)] = some [.one (.mn 2 ks)], Ev CQd Ab (.code 87 false (BE Tryz.prog 87 1) (qd1 root cur v m load rows ws ks s 0)) (.code (.exit 2) (qdO root cur v m load rows ws s)), (s == load) = z]) := by kernel_rfl
theorem wsFrom_step {q : Que} {i : Nat} (h : i < q.ns.length) : q.wsFrom i = (wOK (q.here i) (wAt q i) && q.wsFrom (i + 1)) := by
 have hd : (List.range q.ns.length).drop i = i :: (List.range q.ns.length).drop (i + 1) := by
  have := List.drop_eq_getElem_cons (l := List.range q.ns.length) (i := i) (by simpa using h)
  simpa using this
 unfold Que.wsFrom
 rw [hd, List.all_cons]
def qst0 (q : Que) (s i : Int) : St := qd0 q.root q.cur q.v q.m q.load (A9 q.ns) (A6 q.ws) s i
def qstO (q : Que) (s : Int) : St := qdO q.root q.cur q.v q.m q.load (A9 q.ns) (A6 q.ws) s
def qstR (q : Que) : St := qdR q.root q.cur q.v q.m q.load (A9 q.ns) (A6 q.ws)
theorem sumTo_bound {q : Que} : ∀ i : Nat, (∀ j, j < i → 0 ≤ wAt q j ∧ wAt q j ≤ 88761) → 0 ≤ q.sumTo i ∧ q.sumTo i ≤ 88761 * (i : Int)
 | 0, _ => by simp [Que.sumTo]
 | i + 1, h => by
  obtain ⟨h1, h2⟩ := sumTo_bound i (fun j hj => h j (by omega))
  obtain ⟨h3, h4⟩ := h i (by omega)
  simp only [Que.sumTo]
  constructor
  ·omega
  ·rw [show ((i + 1 : Nat) : Int) = (i : Int) + 1 from by simp]
   omega
theorem wOK_bound {b : Bool} {w : Int} (h : wOK b w = true) : 0 ≤ w ∧ w ≤ 88761 := by
 unfold wOK at h
 cases b with
 | true => simp at h; omega
 | false => simp at h; omega
theorem q0_loop (q : Que) (ok : q.Ok) (h64 : q.ns.length ≤ 64) (hw : q.ws.length = q.ns.length) : ∀ (d i : Nat), i + d = q.ns.length → (∀ j, j < i → 0 ≤ wAt q j ∧ wAt q j ≤ 88761) →
  (q.wsFrom i = true → Ev CQd Ab (.code 87 false (BE Tryz.prog 87 0) (qst0 q (q.sumTo i) i)) (.code (.exit 0) (qstO q (q.sumTo q.ns.length)))) ∧ (q.wsFrom i = false → Ev CQd Ab (.code 87 false (BE Tryz.prog 87 0) (qst0 q (q.sumTo i) i)) (.code .ret (qstR q)))
 | 0, i, h, hb => by
  have hd : (List.range q.ns.length).drop i = [] := List.drop_eq_nil_of_le (by simp; omega)
  have h1 : q.wsFrom i = true := by unfold Que.wsFrom; rw [hd]; rfl
  have hi : i = q.ns.length := by omega
  refine ⟨fun _ => ?_, fun h => (by rw [h1] at h; cases h)⟩
  subst hi
  exact Ac (q0_exit _ _ _ _ _ _ _ _ _) (A0 (by rw [Ay]; exact dge (by omega)) A2)
 | d + 1, i, h, hb => by
  have hi : i < q.ns.length := by omega
  have hwi : i < q.ws.length := by omega
  have hwa : wAt q i = q.ws[i] := by simp [wAt, hwi]
  have b0 : decide ((i : Int) < ((A9 q.ns).length : Int)) = true := by rw [Ay]; exact dlt hi
  have hr : 0 ≤ (i : Int) ∧ (A6 q.ws)[((i : Int)).toNat]? = some [di (wAt q i)] := ⟨by omega, by rw [hwa]; exact B2 (List.getElem?_eq_getElem hwi)⟩
  have hh := heS_at ok hi
  obtain ⟨s1, s2⟩ := sumTo_bound i hb
  rw [wsFrom_step hi]
  have nxt : wOK (q.here i) (wAt q i) = true → (0 ≤ wAt q i ∧ wAt q i ≤ 88761) ∧ (q.wsFrom (i + 1) = true → Ev CQd Ab (.code 87 false (BE Tryz.prog 87 0) (qst0 q (q.sumTo (i + 1)) ((i + 1 : Nat) : Int))) (.code (.exit 0) (qstO q (q.sumTo q.ns.length)))) ∧ (q.wsFrom (i + 1) = false → Ev CQd Ab (.code 87 false (BE Tryz.prog 87 0) (qst0 q (q.sumTo (i + 1)) ((i + 1 : Nat) : Int))) (.code .ret (qstR q))) := fun hok => by
   have hbw := wOK_bound hok
   refine ⟨hbw, q0_loop q ok h64 hw d (i + 1) (by omega) (fun j hj => ?_)⟩
   by_cases e : j = i
   ·subst e; exact hbw
   ·exact hb j (by omega)
  generalize hwg : wAt q i = w at hr nxt ⊢
  have hsum : q.sumTo (i + 1) = q.sumTo i + w := by simp only [Que.sumTo, hwg]
  have ob : ∀ {z : Bool} {lp : List Prop}, q.here i = z → AI lp → AI (q0O q.root q.cur q.v q.m q.load i w (A9 q.ns) (A6 q.ws) z lp) := fun hz hL => A0 b0 (A0 hr (A0 (by rw [← hz]; exact hh) hL))
  have go : ∀ (x : X) (st : St), wOK (q.here i) w = true → Ev CQd Ab (.code 87 false (BE Tryz.prog 87 0) (qst0 q (q.sumTo (i + 1)) ((i + 1 : Nat) : Int))) (.code x st) → Ev CQd Ab (.code 87 false (BE Tryz.prog 87 0) (qst0 q (q.sumTo i) i)) (.code x st) := fun x st hok he => by
   have hbw := (nxt hok).1
   have wr1 : IntKind.wrap .i64 (q.sumTo i + w) = q.sumTo (i + 1) := by rw [hsum]; exact Ch (by omega) (by omega)
   cases hz : q.here i with
   | true =>
    rw [hz] at hok hh
    simp only [wOK, if_true, decide_eq_true_eq] at hok
    exact Aa _ _ _ _ _ _ (q0_t _ _ _ _ _ (q.sumTo i) i w (q.sumTo (i + 1)) ((i + 1 : Nat) : Int) _ _ _ _) (ob hz (A0 (decide_eq_false (by omega)) (A0 (decide_eq_false (by omega)) (A0 hh (A0 wr1 (A0 (Ag (by omega)) (A0 he A2)))))))
   | false =>
    rw [hz] at hok hh
    have hw0 : (w != 0) = false := by simpa [wOK] using hok
    exact Aa _ _ _ _ _ _ (q0_f _ _ _ _ _ (q.sumTo i) i w (q.sumTo (i + 1)) ((i + 1 : Nat) : Int) _ _ _ _) (ob hz (A0 hh (A0 hw0 (A0 wr1 (A0 (Ag (by omega)) (A0 he A2))))))
  cases hok : wOK (q.here i) w with
  | true =>
   rw [Bool.true_and]
   obtain ⟨-, n1, n2⟩ := nxt hok
   exact ⟨fun h => go _ _ hok (n1 h), fun h => go _ _ hok (n2 h)⟩
  | false =>
   rw [Bool.false_and]
   refine ⟨fun h => (by cases h), fun _ => ?_⟩
   cases hz : q.here i with
   | true =>
    rw [hz] at hok
    simp only [wOK, if_true, decide_eq_false_iff_not] at hok
    by_cases g : w < 1
    ·exact Ac (q0_1 _ _ _ _ _ (q.sumTo i) i w _ _) (ob hz (A0 (decide_eq_true g) A2))
    ·exact Ac (q0_2 _ _ _ _ _ (q.sumTo i) i w _ _) (ob hz (A0 (decide_eq_false g) (A0 (decide_eq_true (by omega)) A2)))
   | false =>
    rw [hz] at hok hh
    have hw0 : (w != 0) = true := by simpa [wOK, bne] using hok
    exact Ac (q0_3 _ _ _ _ _ (q.sumTo i) i w _ _) (ob hz (A0 hh (A0 hw0 A2)))
def qst1 (q : Que) (ks : List Ky) (s i : Int) : St := qd1 q.root q.cur q.v q.m q.load (A9 q.ns) (A6 q.ws) (Ai ks) s i
def q1Res (q : Que) (s : Int) (ok : Bool) : X × St := if ok then (.exit 2, qstO q s) else (.ret, qstR q)
theorem q1_loop (q : Que) (s : Int) (l : List Ky) (hl : l.length < 2 ^ 30) : ∀ (r : List Ky) (i : Nat), l.drop i = r → i + r.length = l.length →
  Ev CQd Ab (.code 87 false (BE Tryz.prog 87 1) (qst1 q l s i)) (.code (q1Res q s (r.all fun k => !farK q.m k)).1 (q1Res q s (r.all fun k => !farK q.m k)).2)
 | [], i, hd, hi => Ac (q1_exit _ _ _ _ _ s i _ _ _) (A0 (by rw [AU]; exact dge (by simp at hi; omega)) A2)
 | y :: r, i, hd, hi => by
  simp only [List.length_cons] at hi
  have hil : i < l.length := by omega
  have hy : l[i] = y := by
   rw [List.drop_eq_getElem_cons hil] at hd
   exact (List.cons.inj hd).1
  have hd' : l.drop (i + 1) = r := by
   rw [List.drop_eq_getElem_cons hil] at hd
   exact (List.cons.inj hd).2
  have ih := q1_loop q s l hl r (i + 1) hd' (by omega)
  have hb : decide ((i : Int) < ((Ai l).length : Int)) = true := by rw [AU]; exact dlt hil
  have hr : 0 ≤ (i : Int) ∧ (Ai l)[((i : Int)).toNat]? = some (kD y) := ⟨by omega, by simp [Ai, List.getElem?_eq_getElem hil, hy]⟩
  have ob : ∀ {lp : List Prop}, AI lp → AI (q1O q.m i y.1 y.2 (BW y.1 q.m) (Ai l) lp) := fun h => A0 hb (A0 hr (A0 (lagS_at _ _) h))
  rw [List.all_cons]
  cases h1 : decide (BW y.1 q.m < -1125899906842624) with
  | true =>
   have e : (!farK q.m y) = false := by simp only [farK, h1, Bool.true_or, Bool.not_true]
   rw [e, Bool.false_and]
   exact Ac (q1_1 _ _ _ _ _ s i _ _ _ _ _ _) (ob (A0 h1 A2))
  | false =>
   cases h2 : decide (BW y.1 q.m > 1125899906842624) with
   | true =>
    have e : (!farK q.m y) = false := by simp only [farK, h1, h2, Bool.or_true, Bool.not_true]
    rw [e, Bool.false_and]
    exact Ac (q1_2 _ _ _ _ _ s i _ _ _ _ _ _) (ob (A0 h1 (A0 h2 A2)))
   | false =>
    have e : (!farK q.m y) = true := by simp only [farK, h1, h2, Bool.or_false, Bool.not_false]
    rw [e, Bool.true_and]
    exact Aa _ _ _ _ _ _ (q1_3 _ _ _ _ _ s i _ _ _ ((i + 1 : Nat) : Int) _ _ _ _ _) (ob (A0 h1 (A0 h2 (A0 (Ag (by omega)) (A0 ih A2)))))
def queS : Spec
 | [.agg cs] => queV (fun q => [A3 q.right]) (queR cs)
 | _ => none
theorem queS_at {q : Que} (ok : q.Ok) : queS [.agg q.cs] = some [A3 q.right] := by
 show queV _ (queR q.cs) = _
 rw [queR_cs ok]; rfl
theorem queD_sat : AJ C0 87 queS := AJ.ctx (C := CQd) rfl rfl (Af (O := Ab) hPQd (fun _ _ h => h.elim) Bm fun ps rs hs => by
 unfold queS at hs
 split at hs
 ·rename_i cs
  unfold queV at hs
  split at hs
  ·rename_i q hq
   simp only [Option.some.injEq] at hs
   subst hs
   obtain ⟨rfl, ok⟩ := queR_eq hq
   have ht := treS_at (root := q.root) ok.ns ok.m
   unfold Que.right
   cases h1 : treeR q.root q.ns q.m with
   | false =>
    rw [h1] at ht
    exact A4 (qv_1 q.root q.cur q.v q.m q.load _ _) (A0 ht A2)
   | true =>
    rw [h1] at ht
    have h64 := treeR_len h1
    rw [Bool.true_and]
    by_cases h2 : q.ws.length = q.ns.length
    ·have b2 : (((A6 q.ws).length : Int) != ((A9 q.ns).length : Int)) = false := by rw [Ax, Ay, h2]; simp
     rw [decide_eq_true h2, Bool.true_and]
     by_cases h3 : -1 ≤ q.cur
     ·have b3 : decide (q.cur < -1) = false := decide_eq_false (by omega)
      rw [decide_eq_true h3, Bool.true_and]
      by_cases h4 : q.cur < q.ns.length
      ·have b4 : decide (q.cur ≥ ((A9 q.ns).length : Int)) = false := decide_eq_false (by rw [Ay]; omega)
       rw [decide_eq_true h4, Bool.true_and]
       have hloop := q0_loop q ok h64 h2 q.ns.length 0 (by omega) (fun j hj => by omega)
       have hke := keS_at ok
       have hperm := srtD_perm q.m q.keys
       have hall : (srtD q.m q.keys).all (fun k => !farK q.m k) = q.keys.all (fun k => !farK q.m k) := hperm.all_eq
       have hl65 := keys_len q
       have hl1 := q1_loop q (q.sumTo q.ns.length) (srtD q.m q.keys) (by rw [hperm.length_eq]; omega) (srtD q.m q.keys) 0 rfl (by omega)
       rw [hall] at hl1
       by_cases h5 : q.cur = -1
       ·have b5 : (q.cur == -1) = true := by simp [h5]
        have b6 : decide (0 ≤ q.cur) = false := decide_eq_false (by omega)
        have b6' : decide (q.cur ≥ 0) = false := decide_eq_false (by omega)
        rw [decide_eq_true h5, Bool.true_and, b6, Bool.false_and, Bool.not_false, Bool.true_and]
        by_cases h7 : q.v = 0
        ·have b7 : ((q.v : Int) != 0) = false := by simp [h7]
         have b7' : (q.v != 0) = false := by simp [h7]
         rw [b7', Bool.not_false, Bool.true_and]
         cases h8 : q.wsFrom 0 with
         | false => exact A4 (qv_7n q.root q.cur q.v q.m q.load _ _) (A0 ht (A0 b2 (A0 b3 (A0 b4 (A0 b5 (A0 b7 (A0 b6' (A0 (hloop.2 h8) A2))))))))
         | true =>
          rw [Bool.true_and]
          cases h9 : q.keys.all (fun k => !farK q.m k) with
          | false =>
           rw [h9] at hl1
           exact A4 (qv_8n q.root q.cur q.v q.m q.load _ _ _ _) (A0 ht (A0 b2 (A0 b3 (A0 b4 (A0 b5 (A0 b7 (A0 b6' (A0 (hloop.1 h8) (A0 hke (A0 hl1 A2))))))))))
          | true =>
           rw [h9] at hl1
           rw [Bool.true_and]
           exact A4 (qv_9n q.root q.cur q.v q.m q.load _ _ _ _ _) (A0 ht (A0 b2 (A0 b3 (A0 b4 (A0 b5 (A0 b7 (A0 b6' (A0 (hloop.1 h8) (A0 hke (A0 hl1 (A0 (beqd _ _) A2)))))))))))
        ·have b7 : ((q.v : Int) != 0) = true := by
          have : ¬ (q.v : Int) = 0 := by omega
          simpa using this
         have b7' : (q.v != 0) = true := by simpa using h7
         rw [b7', Bool.not_true, Bool.false_and]
         exact A4 (qv_5 q.root q.cur q.v q.m q.load _ _) (A0 ht (A0 b2 (A0 b3 (A0 b4 (A0 b5 (A0 b7 A2))))))
       ·have b5 : (q.cur == -1) = false := by simpa using h5
        have h0 : 0 ≤ q.cur := by omega
        have b6' : decide (q.cur ≥ 0) = true := decide_eq_true (by omega)
        rw [decide_eq_false h5, Bool.false_and, Bool.not_false, Bool.true_and, decide_eq_true h0, Bool.true_and]
        obtain ⟨c, hc⟩ := Int.eq_ofNat_of_zero_le h0
        have hcl : c < q.ns.length := by omega
        have hin : Bw q.ns q.cur.toNat = q.ns[c].inn := by rw [hc, Int.toNat_natCast]; simp only [Bw, List.getElem?_eq_getElem hcl]
        have hrow : 0 ≤ q.cur ∧ (A9 q.ns)[q.cur.toNat]? = some (q.ns[c]).cs := ⟨h0, by rw [hc]; exact AS (List.getElem?_eq_getElem hcl)⟩
        rw [hin]
        generalize q.ns[c] = nd at hrow ⊢
        obtain ⟨bb, r, nv, nl, nr, nu⟩ := nd
        cases bb with
        | true => exact A4 (qv_6 q.root q.cur q.v q.m q.load _ _ r nv nl nr nu) (A0 ht (A0 b2 (A0 b3 (A0 b4 (A0 b5 (A0 b6' (A0 hrow A2)))))))
        | false =>
         rw [Bool.not_false, Bool.true_and]
         cases h8 : q.wsFrom 0 with
         | false => exact A4 (qv_7c q.root q.cur q.v q.m q.load _ _ r nv nl nr nu) (A0 ht (A0 b2 (A0 b3 (A0 b4 (A0 b5 (A0 b6' (A0 hrow (A0 (hloop.2 h8) A2))))))))
         | true =>
          rw [Bool.true_and]
          cases h9 : q.keys.all (fun k => !farK q.m k) with
          | false =>
           rw [h9] at hl1
           exact A4 (qv_8c q.root q.cur q.v q.m q.load _ _ r nv nl nr nu _ _) (A0 ht (A0 b2 (A0 b3 (A0 b4 (A0 b5 (A0 b6' (A0 hrow (A0 (hloop.1 h8) (A0 hke (A0 hl1 A2))))))))))
          | true =>
           rw [h9] at hl1
           rw [Bool.true_and]
           exact A4 (qv_9c q.root q.cur q.v q.m q.load _ _ r nv nl nr nu _ _ _) (A0 ht (A0 b2 (A0 b3 (A0 b4 (A0 b5 (A0 b6' (A0 hrow (A0 (hloop.1 h8) (A0 hke (A0 hl1 (A0 (beqd _ _) A2)))))))))))
      ·have b4 : decide (q.cur ≥ ((A9 q.ns).length : Int)) = true := decide_eq_true (by rw [Ay]; omega)
       rw [decide_eq_false h4]
       exact A4 (qv_4 q.root q.cur q.v q.m q.load _ _) (A0 ht (A0 b2 (A0 b3 (A0 b4 A2))))
     ·have b3 : decide (q.cur < -1) = true := decide_eq_true (by omega)
      rw [decide_eq_false h3]
      exact A4 (qv_3 q.root q.cur q.v q.m q.load _ _) (A0 ht (A0 b2 (A0 b3 A2)))
    ·have b2 : (((A6 q.ws).length : Int) != ((A9 q.ns).length : Int)) = true := by
      rw [Ax, Ay]
      have : ¬ (q.ws.length : Int) = (q.ns.length : Int) := by omega
      simpa using this
     rw [decide_eq_false h2]
     exact A4 (qv_2 q.root q.cur q.v q.m q.load _ _) (A0 ht (A0 b2 A2))
  ·cases hs
 ·cases hs)
theorem avFree_dd (L : List Nat) : ∀ l : List DV, AT L (l.map .d) = true
 | [] => rfl
 | a :: l => by simp only [List.map_cons, AT, avFree_dd L l]; rfl
open Classical in
noncomputable def srtP (m : Nat) (l : List Ky) : List Ky := if h : Cy l ∧ l ≠ [] then Classical.choose (keySort_sl m false l h.1 h.2) else l
theorem srtP_perm (m : Nat) (l : List Ky) : (srtP m l).Perm l := by
 unfold srtP
 split
 ·rename_i h; exact (Classical.choose_spec (keySort_sl m false l h.1 h.2)).1
 ·exact .refl _
theorem srtP_sat (m : Nat) (l : List Ky) (hs : Cy l) (hne : l ≠ []) : Sat1 C0 190 [pu m, .one (.sl 2 false (Ai l))] [.one (.mn 2 (Ai (srtP m l)))] := by
 have h : Cy l ∧ l ≠ [] := ⟨hs, hne⟩
 unfold srtP
 rw [dif_pos h]
 exact (Classical.choose_spec (keySort_sl m false l h.1 h.2)).2
noncomputable def ksV (m : Int) : DV → Option (List PV)
 | .v (.slice none 0 0) => some [.one (.mn 2 (Ai []))]
 | .sl 2 false rows => match Ae kyR rows with
  | some l => if 0 ≤ m ∧ l.length < 2 ^ 30 ∧ l.isEmpty = false then some [.one (.mn 2 (Ai (srtP m.toNat l)))] else none
  | none => none
 | _ => none
noncomputable def ksS : Spec
 | [.one (.v (.int .u64 m)), .one d] => ksV m d
 | _ => none
theorem ks_sat : AJ C0 190 ksS := AJ.of1 fun ps rs hs => by
 unfold ksS at hs
 split at hs
 ·rename_i m d
  unfold ksV at hs
  split at hs
  ·simp only [Option.some.injEq] at hs
   subst hs
   exact keySort_nil m
  ·rename_i rows
   split at hs
   ·rename_i l hl
    split at hs
    ·rename_i hc
     obtain ⟨mn, rfl⟩ := Int.eq_ofNat_of_zero_le hc.1
     simp only [Option.some.injEq, Int.toNat_natCast] at hs
     subst hs
     have hv := kyR_lt hl
     obtain rfl := krows_of hl
     refine srtP_sat mn l ⟨hc.2.1, hv⟩ (fun e => ?_)
     have := hc.2.2
     rw [e] at this
     cases this
    ·cases hs
   ·cases hs
  ·cases hs
 ·cases hs
theorem ksS_sl {m : Nat} {l : List Ky} (hv : ∀ k ∈ l, k.1 < 2 ^ 64) (hl : l.length < 2 ^ 30) (hne : l.isEmpty = false) : ksS [pu m, .one (.sl 2 false (Ai l))] = some [.one (.mn 2 (Ai (srtP m l)))] := by
 show ksV m (.sl 2 false (Ai l)) = _
 simp only [ksV, kyR_krows hv]
 rw [if_pos ⟨by omega, hl, hne⟩, Int.toNat_natCast]
noncomputable def CKk : Ctx := Ad CCl 190 ksS
theorem hPKk : Aw CKk := A7 hPCl (ks_sat.ctx rfl rfl) (by kernel_rfl)
def tcellk (root : Int) (rows : A8) : AO := .cells [vi root, .d (.mn 6 rows)] false
def wcellk (root : Int) (rows : A8) : AO := .cells [.d (.mn 6 rows), vi root, .fn (.fn (.func 214)) [.ptr (A1 182 11) 0 0] [], .fn (.fn (.func 215)) [.ptr (A1 182 11) 0 0] []] false
def Bp (qc : List DV) (root : Int) (rows : A8) (a : AV) (cs : List AV) (t : AC) : H := { objs := [(A1 138 1, 1, [.cells (qc.map .d) false]), (A1 182 1, 1, [tcellk root rows]), (A1 182 11, 1, [wcellk root rows]), (A1 183 4, 1, [.cells [a] false]), (A1 183 21, 1, [.cells cs false]), (A1 187 1, 1, [tcellk root rows])], toks := t }
def tbHk (qc : List DV) (root : Int) (rows : A8) : H := { objs := [(A1 138 1, 1, [.cells (qc.map .d) false]), (A1 182 1, 1, [tcellk root rows]), (A1 182 11, 1, [wcellk root rows]), (A1 187 1, 1, [tcellk root rows])] }
def twAk (x up : Int) (n : Nat) : List AV := [.ptr (A1 182 11) 0 0, vi x, vi up, .hs (A1 183 21) 0 0 n 1, .ptr (A1 183 4) 0 0]
noncomputable def twCk (qc : List DV) (root : Int) (rows : A8) (a : AV) (cs : List AV) (t : AC) (x up : Int) (n : Nat) (sc : Ah) : SM Res := AY CKk Ab 60 (.call 216 (twAk x up n) (Bp qc root rows a cs t)) sc
theorem tw_endk (qc : List DV) (root up : Int) (rows : A8) (a : AV) (cs : List AV) (t : AC) (n : Nat) : twCk qc root rows a cs t (-1) up n [] = some (.val (vb true) (Bp qc root rows a cs t), [], []) := by kernel_rfl
theorem tw_negk (qc : List DV) (root x up : Int) (rows : A8) (a : AV) (cs : List AV) (t : AC) (n : Nat) : twCk qc root rows a cs t x up n [(A1 216 12, .b false), (A1 216 14, .b true)] = some (.val (vb false) (Bp qc root rows a cs t), [], [(x == -1) = false, decide (x < 0) = true]) := by kernel_rfl
theorem tw_bigk (qc : List DV) (root x up : Int) (rows : A8) (a : AV) (cs : List AV) (t : AC) (n : Nat) : twCk qc root rows a cs t x up n [(A1 216 12, .b false), (A1 216 14, .b false), (A1 216 23, .b true)] = some (.val (vb false) (Bp qc root rows a cs t), [], [(x == -1) = false, decide (x < 0) = false, decide (x ≥ (rows.length : Int)) = true]) := by kernel_rfl
def twSk (m : Nat) (z : Bool) (l : Ah) : Ah := (A1 216 12, .b false) :: (A1 216 14, .b false) :: (A1 216 23, .b false) :: (A1 216 28, .idx m) :: (A1 216 29, .ld (vb z)) :: l
def twOk (x : Int) (rows : A8) (cs : List AV) (n m : Nat) (z : Bool) (l : List Prop) : List Prop := ((x == -1) = false) :: (decide (x < 0) = false) :: (decide (x ≥ (rows.length : Int)) = false) :: (x = m ∧ m < n) :: (AE C0 4 cs (0 + m * 1) = some (vb z)) :: l
theorem tw_metk (qc : List DV) (root x up : Int) (rows : A8) (a : AV) (cs : List AV) (t : AC) (n m : Nat) : twCk qc root rows a cs t x up n (twSk m true []) = some (.val (vb false) (Bp qc root rows a cs t), [], twOk x rows cs n m true []) := by kernel_rfl
theorem tw_outk (qc : List DV) (root x up : Int) (rows : A8) (a : AV) (cs : List AV) (t : AC) (n m : Nat) (r : Bool) (nv nl nr nu : Int) : twCk qc root rows a cs t x up n (twSk m false [(A1 216 38, .row (BU false r nv nl nr nu))]) = some (.val (vb false) (Bp qc root rows a cs t), [], twOk x rows cs n m false [0 ≤ x ∧ rows[x.toNat]? = some (BU false r nv nl nr nu)]) := by kernel_rfl
def twIk (x : Int) (rows : A8) (r : Bool) (nv nl nr nu : Int) : Prop := 0 ≤ x ∧ rows[x.toNat]? = some (BU true r nv nl nr nu)
theorem tw_upk (qc : List DV) (root x up : Int) (rows : A8) (a : AV) (cs : List AV) (t : AC) (n m : Nat) (r : Bool) (nv nl nr nu : Int) : twCk qc root rows a cs t x up n (twSk m false [(A1 216 38, .row (BU true r nv nl nr nu)), (A1 230 10, .row (BU true r nv nl nr nu)), (A1 216 50, .b true)]) =
  some (.val (vb false) (Bp qc root rows a cs t), [], twOk x rows cs n m false [twIk x rows r nv nl nr nu, twIk x rows r nv nl nr nu, (nu != up) = true]) := by kernel_rfl
def twMk (m : Nat) (cs' : List AV) (r : Bool) (nv nl nr nu : Int) (z : Bool) (h1 : H) (l : Ah) : Ah := twSk m false ((A1 216 38, .row (BU true r nv nl nr nu)) :: (A1 230 10, .row (BU true r nv nl nr nu)) :: (A1 216 50, .b false) :: (A1 216 54, .idx m) :: (A1 216 8000, .sto cs') :: (A1 214 10, .row (BU true r nv nl nr nu)) :: (A1 216 66, .call (vb z) h1) :: l)
def twQk (qc : List DV) (root x up : Int) (rows : A8) (a : AV) (cs cs' : List AV) (t : AC) (n m : Nat) (r : Bool) (nv nl nr nu : Int) (z : Bool) (h1 : H) (l : List Prop) : List Prop := twOk x rows cs n m false (twIk x rows r nv nl nr nu :: twIk x rows r nv nl nr nu :: ((nu != up) = false) :: (x = m ∧ m < n) :: stoEq C0 4 cs (0 + m * 1) (vb true) cs' :: twIk x rows r nv nl nr nu :: Ev CKk Ab (.call 216 (twAk nl x n) (Bp qc root rows a cs' t)) (.val (vb z) h1) :: l)
theorem tw_lk (qc : List DV) (root x up : Int) (rows : A8) (a a1 : AV) (cs cs' cs1 : List AV) (t t1 : AC) (n m : Nat) (r : Bool) (nv nl nr nu : Int) : twCk qc root rows a cs t x up n (twMk m cs' r nv nl nr nu false (Bp qc root rows a1 cs1 t1) []) = some (.val (vb false) (Bp qc root rows a1 cs1 t1), [], twQk qc root x up rows a cs cs' t n m r nv nl nr nu false (Bp qc root rows a1 cs1 t1) []) := by kernel_rfl
theorem tw_rnk (qc : List DV) (root x up : Int) (rows : A8) (a a2 : AV) (cs cs' cs1 cs2 : List AV) (t t2 : AC) (n m : Nat) (r z : Bool) (nv nl nr nu : Int) : twCk qc root rows a cs t x up n (twMk m cs' r nv nl nr nu true (Bp qc root rows (.d dnil) cs1 []) [(A1 216 74, .app false), (A1 215 10, .row (BU true r nv nl nr nu)), (A1 216 87, .call (vb z) (Bp qc root rows a2 cs2 t2))]) =
  some (.val (vb z) (Bp qc root rows a2 cs2 t2), [], twQk qc root x up rows a cs cs' t n m r nv nl nr nu true (Bp qc root rows (.d dnil) cs1 []) [false = false ∧ Am 0 1 8, twIk x rows r nv nl nr nu, Ev CKk Ab (.call 216 (twAk nr x n) (Bp qc root rows (.st 1 [[di x]] (A1 216 74) 1) cs1 [(A1 216 74, 1)])) (.val (vb z) (Bp qc root rows a2 cs2 t2))]) := by kernel_rfl
theorem tw_rsk (qc : List DV) (root x up : Int) (rows out : A8) (g : Nat) (a a2 : AV) (cs cs' cs1 cs2 : List AV) (t t2 : AC) (n m : Nat) (r z : Bool) (nv nl nr nu : Int) : twCk qc root rows a cs t x up n (twMk m cs' r nv nl nr nu true (Bp qc root rows (.st 1 out (A1 216 74) g) cs1 [(A1 216 74, g)]) [(A1 216 74, .app false), (A1 215 10, .row (BU true r nv nl nr nu)), (A1 216 87, .call (vb z) (Bp qc root rows a2 cs2 t2))]) =
  some (.val (vb z) (Bp qc root rows a2 cs2 t2), [], twQk qc root x up rows a cs cs' t n m r nv nl nr nu true (Bp qc root rows (.st 1 out (A1 216 74) g) cs1 [(A1 216 74, g)]) [false = false ∧ (g = g ∧ Am out.length 1 8), twIk x rows r nv nl nr nu, Ev CKk Ab (.call 216 (twAk nr x n) (Bp qc root rows (.st 1 (out ++ [[di x]]) (A1 216 74) (g + 1 + 1)) cs1 [(A1 216 74, g + 1 + 1)])) (.val (vb z) (Bp qc root rows a2 cs2 t2))]) := by kernel_rfl
theorem tw_walkk (qc : List DV) (root : Int) (ns : List Nod) (hn : ns.length ≤ 64) : ∀ (k : Nat) (x up : Int) (seen out : List Int), gIn ns seen → left ns.length seen < k → out.length ≤ seen.length →
  ((AZ ns k x up seen).2.2 = true → Ev CKk Ab (.call 216 (twAk x up ns.length) (Bp qc root (A9 ns) (ouA out) (AK ns.length seen) (ouT out))) (.val (vb true) (Bp qc root (A9 ns) (ouA (out ++ (AZ ns k x up seen).1)) (AK ns.length (AZ ns k x up seen).2.1) (ouT (out ++ (AZ ns k x up seen).1))))) ∧
  ((AZ ns k x up seen).2.2 = false → ∃ a cs t, Ev CKk Ab (.call 216 (twAk x up ns.length) (Bp qc root (A9 ns) (ouA out) (AK ns.length seen) (ouT out))) (.val (vb false) (Bp qc root (A9 ns) a cs t)))
 | 0, x, up, seen, out, hin, hk, ho => by omega
 | k + 1, x, up, seen, out, hin, hk, ho => by
  have hlen : seen.length ≤ ns.length := by unfold gIn at hin; omega
  by_cases hx : x = -1
  ·subst hx
   have e : AZ ns (k + 1) (-1) up seen = ([], seen, true) := by unfold AZ; rw [if_pos rfl]
   rw [e]
   exact ⟨fun _ => by rw [List.append_nil]; exact Aa _ _ _ _ _ _ (tw_endk qc root up _ _ _ _ _) A2, fun h => (by cases h)⟩
  ·have b0 : (x == -1) = false := by simpa using hx
   have bad : gok ns x up seen = none → (∃ a cs t, Ev CKk Ab (.call 216 (twAk x up ns.length) (Bp qc root (A9 ns) (ouA out) (AK ns.length seen) (ouT out))) (.val (vb false) (Bp qc root (A9 ns) a cs t))) →
    ((AZ ns (k + 1) x up seen).2.2 = true → Ev CKk Ab (.call 216 (twAk x up ns.length) (Bp qc root (A9 ns) (ouA out) (AK ns.length seen) (ouT out))) (.val (vb true) (Bp qc root (A9 ns) (ouA (out ++ (AZ ns (k + 1) x up seen).1)) (AK ns.length (AZ ns (k + 1) x up seen).2.1) (ouT (out ++ (AZ ns (k + 1) x up seen).1))))) ∧
    ((AZ ns (k + 1) x up seen).2.2 = false → ∃ a cs t, Ev CKk Ab (.call 216 (twAk x up ns.length) (Bp qc root (A9 ns) (ouA out) (AK ns.length seen) (ouT out))) (.val (vb false) (Bp qc root (A9 ns) a cs t))) := fun hg he => by
    have e : AZ ns (k + 1) x up seen = ([], seen, false) := by unfold AZ; rw [if_neg hx, hg]
    rw [e]
    exact ⟨fun h => (by cases h), fun _ => he⟩
   by_cases hx0 : x < 0
   ·have hg : gok ns x up seen = none := by simp [gok, Bk, hx0]
    exact bad hg ⟨_, _, _, Aa _ _ _ _ _ _ (tw_negk qc root x up _ _ _ _ _) (A0 b0 (A0 (decide_eq_true hx0) A2))⟩
   ·have b1 : decide (x < 0) = false := decide_eq_false hx0
    obtain ⟨i, rfl⟩ := Int.eq_ofNat_of_zero_le (Int.not_lt.1 hx0)
    have hna : Bk ns (i : Int) = ns[i]? := by unfold Bk; rw [if_neg hx0, Int.toNat_natCast]
    by_cases hi : i < ns.length
    ·have b2 : decide ((i : Int) ≥ ((A9 ns).length : Int)) = false := decide_eq_false (by rw [Ay]; omega)
     have hld : AE C0 4 (AK ns.length seen) (0 + i * 1) = some (vb (seen.contains (i : Int))) := by rw [ld1 agg4, metC_at hi]
     cases hm : seen.contains (i : Int) with
     | true =>
      rw [hm] at hld
      have hg : gok ns (i : Int) up seen = none := by unfold gok; rw [hna, List.getElem?_eq_getElem hi]; simp only [hm, Bool.true_or, if_true]
      exact bad hg ⟨_, _, _, Aa _ _ _ _ _ _ (tw_metk qc root _ up _ _ _ _ _ i) (A0 b0 (A0 b1 (A0 b2 (A0 ⟨rfl, hi⟩ (A0 hld A2)))))⟩
     | false =>
      rw [hm] at hld
      have hr0 : 0 ≤ (i : Int) ∧ (A9 ns)[((i : Int)).toNat]? = some (ns[i]).cs := ⟨by omega, AS (List.getElem?_eq_getElem hi)⟩
      have hgo : gok ns (i : Int) up seen = if (!ns[i].inn || ns[i].u != up) = true then none else some ns[i] := by
       unfold gok; rw [hna, List.getElem?_eq_getElem hi]; simp only [hm, Bool.false_or]
      generalize ns[i] = n at hr0 hgo
      obtain ⟨a, r, nv, nl, nr, nu⟩ := n
      have ob : ∀ {l : List Prop}, AI l → AI (twOk (i : Int) (A9 ns) (AK ns.length seen) ns.length i false l) := fun h =>
       A0 b0 (A0 b1 (A0 b2 (A0 ⟨rfl, hi⟩ (A0 hld h))))
      cases a with
      | false => exact bad (by rw [hgo]; rfl) ⟨_, _, _, Aa _ _ _ _ _ _ (tw_outk qc root _ up _ _ _ _ _ i r nv nl nr nu) (ob (A0 hr0 A2))⟩
      | true =>
       by_cases hu : nu = up
       ·subst hu
        have b3 : (nu != nu) = false := by simp
        have hg : gok ns (i : Int) nu seen = some ⟨true, r, nv, nl, nr, nu⟩ := by rw [hgo]; simp
        obtain ⟨hin2, hl2⟩ := gIn_snoc hin hg
        obtain ⟨hin3, hl3, hn3⟩ := gth_in k nl (i : Int) (seen ++ [(i : Int)]) hin2
        simp only [List.length_append, List.length_cons, List.length_nil] at hn3
        have ih1 := tw_walkk qc root ns hn k nl (i : Int) (seen ++ [(i : Int)]) out hin2 (by omega) (by simp only [List.length_append]; omega)
        have ih2 := tw_walkk qc root ns hn k nr (i : Int) (AZ ns k nl (i : Int) (seen ++ [(i : Int)])).2.1 (out ++ (AZ ns k nl (i : Int) (seen ++ [(i : Int)])).1 ++ [(i : Int)]) hin3 (by omega) (by simp only [List.length_append, List.length_cons, List.length_nil]; omega)
        have e : AZ ns (k + 1) (i : Int) nu seen = if (AZ ns k nl (i : Int) (seen ++ [(i : Int)])).2.2 then
          ((AZ ns k nl (i : Int) (seen ++ [(i : Int)])).1 ++ (i : Int) :: (AZ ns k nr (i : Int) (AZ ns k nl (i : Int) (seen ++ [(i : Int)])).2.1).1, (AZ ns k nr (i : Int) (AZ ns k nl (i : Int) (seen ++ [(i : Int)])).2.1).2.1, (AZ ns k nr (i : Int) (AZ ns k nl (i : Int) (seen ++ [(i : Int)])).2.1).2.2)
         else ([], (AZ ns k nl (i : Int) (seen ++ [(i : Int)])).2.1, false) := by
         show (if (i : Int) = -1 then ([], seen, true) else match gok ns (i : Int) nu seen with | none => ([], seen, false) | some n => _) = _
         rw [if_neg hx, hg]
        rw [e]
        have hst : stoEq C0 4 (AK ns.length seen) (0 + i * 1) (vb true) (AK ns.length (seen ++ [(i : Int)])) := by
         rw [← metC_set hi]
         exact sto1 size4 rfl rfl (by rw [metC_len]; exact hi)
        have hol : (out ++ (AZ ns k nl (i : Int) (seen ++ [(i : Int)])).1).length ≤ 64 := by
         have h3 : (AZ ns k nl (i : Int) (seen ++ [(i : Int)])).2.1.length + left ns.length (AZ ns k nl (i : Int) (seen ++ [(i : Int)])).2.1 ≤ ns.length := hin3
         rw [List.length_append]; omega
        generalize AZ ns k nl (i : Int) (seen ++ [(i : Int)]) = A at ih1 ih2 hol ⊢
        obtain ⟨al, as1, az⟩ := A
        simp only at ih1 ih2 hol ⊢
        generalize AZ ns k nr (i : Int) as1 = Bq at ih2 ⊢
        obtain ⟨bl, bs, bz⟩ := Bq
        simp only at ih2
        cases az with
        | false =>
         simp only [Bool.false_eq_true, if_false]
         refine ⟨fun h => (by cases h), fun _ => ?_⟩
         obtain ⟨a1, cs1, t1, he⟩ := ih1.2 rfl
         exact ⟨_, _, _, Aa _ _ _ _ _ _ (tw_lk qc root _ nu _ _ a1 _ _ cs1 _ t1 _ i r nv nl nr nu) (ob (A0 hr0 (A0 hr0 (A0 b3 (A0 ⟨rfl, hi⟩ (A0 hst (A0 hr0 (A0 he A2))))))))⟩
        | true =>
         have he1 := ih1.1 rfl
         simp only [if_true]
         have go : ∀ (z : Bool) (a2 : AV) (cs2 : List AV) (t2 : AC), Ev CKk Ab (.call 216 (twAk nr (i : Int) ns.length) (Bp qc root (A9 ns) (ouA (out ++ al ++ [(i : Int)])) (AK ns.length as1) (ouT (out ++ al ++ [(i : Int)])))) (.val (vb z) (Bp qc root (A9 ns) a2 cs2 t2)) →
          Ev CKk Ab (.call 216 (twAk (i : Int) nu ns.length) (Bp qc root (A9 ns) (ouA out) (AK ns.length seen) (ouT out))) (.val (vb z) (Bp qc root (A9 ns) a2 cs2 t2)) := fun z a2 cs2 t2 he2 => by
          generalize out ++ al = Lq at he1 he2 hol
          cases Lq with
          | nil => exact Aa _ _ _ _ _ _ (tw_rnk qc root _ nu _ _ a2 _ _ _ cs2 _ t2 _ i r z nv nl nr nu) (ob (A0 hr0 (A0 hr0 (A0 b3 (A0 ⟨rfl, hi⟩ (A0 hst (A0 hr0 (A0 he1 (A0 ⟨rfl, fits8 (by omega) (by omega)⟩ (A0 hr0 (A0 he2 A2)))))))))))
          | cons c l =>
           have ea : ouA (c :: l ++ [(i : Int)]) = .st 1 (([di c] :: A6 l) ++ [[di (i : Int)]]) (A1 216 74) (2 * (A6 l).length + 1 + 1 + 1) := by
            unfold ouA; rw [← (Bd 1 (A1 216 74) [di c] [di (i : Int)] (A6 l)).1]; simp [A6]
           have et : ouT (c :: l ++ [(i : Int)]) = [(A1 216 74, 2 * (A6 l).length + 1 + 1 + 1)] := by
            unfold ouT; rw [← (Bd 1 (A1 216 74) [di c] [di (i : Int)] (A6 l)).2]; simp [A6]
           rw [ea, et] at he2
           exact Aa _ _ _ _ _ _ (tw_rsk qc root _ nu _ ([di c] :: A6 l) (2 * (A6 l).length + 1) _ a2 _ _ _ cs2 _ t2 _ i r z nv nl nr nu) (ob (A0 hr0 (A0 hr0 (A0 b3 (A0 ⟨rfl, hi⟩ (A0 hst (A0 hr0 (A0 he1 (A0 ⟨rfl, rfl, fits8 (by simp [A6]; simp at hol; omega) (by omega)⟩ (A0 hr0 (A0 he2 A2)))))))))))
         refine ⟨fun h => ?_, fun h => ?_⟩
         ·have he2 := ih2.1 h
          have eq : out ++ (al ++ (i : Int) :: bl) = out ++ al ++ [(i : Int)] ++ bl := by simp
          rw [eq]
          exact go _ _ _ _ he2
         ·obtain ⟨a2, cs2, t2, he2⟩ := ih2.2 h
          exact ⟨a2, cs2, t2, go _ _ _ _ he2⟩
       ·have hg : gok ns (i : Int) up seen = none := by
         rw [hgo]
         have : (nu != up) = true := by simpa using hu
         simp [this]
        exact bad hg ⟨_, _, _, Aa _ _ _ _ _ _ (tw_upk qc root _ up _ _ _ _ _ i r nv nl nr nu) (ob (A0 hr0 (A0 hr0 (A0 (by simpa using hu) A2))))⟩
    ·have hg : gok ns (i : Int) up seen = none := by
      unfold gok
      rw [hna, List.getElem?_eq_none (by omega)]
     exact bad hg ⟨_, _, _, Aa _ _ _ _ _ _ (tw_bigk qc root _ up _ _ _ _ _) (A0 b0 (A0 b1 (A0 (decide_eq_true (by rw [Ay]; omega)) A2)))⟩
def toHdk (qc : List DV) (root : Int) (rows : A8) (a : AV) (cs : List AV) (t : AC) (n : Nat) (i : Int) : St := { σ := Ap 54 [(4, .ptr (A1 183 4) 0 0), (5, .hs (A1 183 21) 0 0 n 1), (35, .d (.mn 6 rows)), (36, vi rows.length), (37, vi i)], h := Bp qc root rows a cs t }
def toOutk (qc : List DV) (root : Int) (rows : A8) (a : AV) (cs : List AV) (t : AC) : St := { σ := Ap 54 [(4, .ptr (A1 183 4) 0 0)], h := Bp qc root rows a cs t }
def toRetk (qc : List DV) (root : Int) (rows : A8) (a : AV) (cs : List AV) (t : AC) : St := { σ := Ap 54 [(2, .d dnil), (3, vb false)], h := Bp qc root rows a cs t }
def toXk (qc : List DV) (root : Int) (rows : A8) (a : AV) (cs : List AV) (t : AC) (nd : List DV) : H := { objs := [(A1 138 1, 1, [.cells (qc.map .d) false]), (A1 182 1, 1, [tcellk root rows]), (A1 182 11, 1, [wcellk root rows]), (A1 183 4, 1, [.cells [a] false]), (A1 183 7, 1, [.cells (nd.map .d) false]), (A1 183 21, 1, [.cells cs false]), (A1 187 1, 1, [tcellk root rows])], toks := t }
theorem to_exitk (qc : List DV) (root i : Int) (rows : A8) (a : AV) (cs : List AV) (t : AC) (n : Nat) : symM CKk Ab 60 183 false (BE Tryz.prog 183 0) (toHdk qc root rows a cs t n i) [(A1 183 38, .b false)] [4] = some ((.exit 0, toOutk qc root rows a cs t), [], [decide (i < (rows.length : Int)) = false]) := by kernel_rfl
def toSk (b r : Bool) (nv nl nr nu : Int) (m : Nat) (z : Bool) (l : Ah) : Ah := (A1 183 38, .b true) :: (A1 183 40, .row (BU b r nv nl nr nu)) :: (A1 183 44, .idx m) :: (A1 183 45, .ld (vb z)) :: l
def toOk (i : Int) (rows : A8) (cs : List AV) (n : Nat) (b r : Bool) (nv nl nr nu : Int) (m : Nat) (z : Bool) (l : List Prop) : List Prop := (decide (i < (rows.length : Int)) = true) :: (0 ≤ i ∧ rows[i.toNat]? = some (BU b r nv nl nr nu)) :: (i = m ∧ m < n) :: (AE C0 4 cs (0 + m * 1) = some (vb z)) :: l
def toNk (i' : Int) (X : X) (st : St) : Ah := [(A1 183 52, .int i'), (A1 183 8002, .drop [A1 183 7] [4, 5, 35, 36, 37]), (A1 183 8001, .loop [4, 5, 35, 36, 37] X st)]
def toKk (qc : List DV) (root i i' : Int) (rows : A8) (a : AV) (cs : List AV) (t : AC) (n : Nat) (nd : List DV) (X : X) (st : St) : List Prop := [IntKind.wrap .i64 (i + 1) = i', hNone [A1 183 7] (Bp qc root rows a cs t) = true, hFree [A1 183 7] (toXk qc root rows a cs t nd) = true, true = true, Ev CKk Ab (.code 183 false (BE Tryz.prog 183 0) (toHdk qc root rows a cs t n i')) (.code X st)]
theorem to_metk (qc : List DV) (root i i' : Int) (rows : A8) (a : AV) (cs : List AV) (t : AC) (n m : Nat) (b r : Bool) (nv nl nr nu : Int) (X : X) (st : St) : AY CKk Ab 60 (.code 183 false (BE Tryz.prog 183 0) (toHdk qc root rows a cs t n i)) (toSk b r nv nl nr nu m true (toNk i' X st)) =
  some (.code X st, [], toOk i rows cs n b r nv nl nr nu m true (toKk qc root i i' rows a cs t n (BU b r nv nl nr nu) X st)) := by kernel_rfl
theorem to_zerok (qc : List DV) (root i i' : Int) (rows : A8) (a : AV) (cs : List AV) (t : AC) (n m : Nat) (b r : Bool) (nv : Nat) (nl nr nu : Int) (X : X) (st : St) : AY CKk Ab 60 (.code 183 false (BE Tryz.prog 183 0) (toHdk qc root rows a cs t n i)) (toSk b r nv nl nr nu m false ((A1 183 50, .eqv true) :: toNk i' X st)) =
  some (.code X st, [], toOk i rows cs n b r nv nl nr nu m false ((Ar Tryz.prog (Op.equal 117 (vNod ⟨b, r, nv, nl, nr, nu⟩) (vNod nodE)) = some true) :: toKk qc root i i' rows a cs t n (BU b r nv nl nr nu) X st)) := by kernel_rfl
theorem to_badk (qc : List DV) (root i : Int) (rows : A8) (a : AV) (cs : List AV) (t : AC) (n m : Nat) (b r : Bool) (nv : Nat) (nl nr nu : Int) : symD CKk Ab 60 183 false (BE Tryz.prog 183 0) (toHdk qc root rows a cs t n i) (toSk b r nv nl nr nu m false [(A1 183 50, .eqv false)]) [2, 3] [A1 183 7] =
  some ((.ret, toRetk qc root rows a cs t), [], toOk i rows cs n b r nv nl nr nu m false [Ar Tryz.prog (Op.equal 117 (vNod ⟨b, r, nv, nl, nr, nu⟩) (vNod nodE)) = some false, hNone [A1 183 7] (Bp qc root rows a cs t) = true, hFree [A1 183 7] (toXk qc root rows a cs t (BU b r nv nl nr nu)) = true, true = true]) := by kernel_rfl
theorem toX_freek (qc : List DV) (root : Int) (rows : A8) (out : List Int) (n : Nat) (seen : List Int) (t : AC) (nd : List DV) : hFree [A1 183 7] (toXk qc root rows (ouA out) (AK n seen) t nd) = true := by
 have h1 : BD [A1 183 7] (ouA out) = true := by cases out <;> rfl
 have h2 : AT [A1 183 7] (AK n seen) = true := metC_free _ _ _
 have h3 : BD [A1 183 7] (vi root) = true := rfl
 simp only [A1, Nat.reduceMul, Nat.reduceAdd] at h1 h2 h3
 have h4 : AT [A1 183 7] (qc.map .d) = true := avFree_dd _ _
 simp only [A1, Nat.reduceMul, Nat.reduceAdd] at h4
 simp [hFree, toXk, objFree, AT, h1, h2, h3, h4, tcellk, wcellk, BD, A1]
def toResk (qc : List DV) (root : Int) (rows : A8) (a : AV) (cs : List AV) (t : AC) (ok : Bool) : X × St := if ok then (.exit 0, toOutk qc root rows a cs t) else (.ret, toRetk qc root rows a cs t)
theorem to_loopk (qc : List DV) (root : Int) (ns : List Nod) (out seen : List Int) (t : AC) (hn : ns.length ≤ 64) : ∀ (d i : Nat), i + d = ns.length →
  Ev CKk Ab (.code 183 false (BE Tryz.prog 183 0) (toHdk qc root (A9 ns) (ouA out) (AK ns.length seen) t ns.length i)) (.code (toResk qc root (A9 ns) (ouA out) (AK ns.length seen) t (((List.range ns.length).drop i).all fun j : Nat => seen.contains (j : Int) || BP ns j)).1 (toResk qc root (A9 ns) (ouA out) (AK ns.length seen) t (((List.range ns.length).drop i).all fun j : Nat => seen.contains (j : Int) || BP ns j)).2)
 | 0, i, h => by
  have : (List.range ns.length).drop i = [] := List.drop_eq_nil_of_le (by simp; omega)
  rw [this]
  exact Ac (to_exitk qc _ _ _ _ _ _ _) (A0 (by rw [Ay]; exact dge (by omega)) A2)
 | d + 1, i, h => by
  have hi : i < ns.length := by omega
  have hd : (List.range ns.length).drop i = i :: (List.range ns.length).drop (i + 1) := by
   have := List.drop_eq_getElem_cons (l := List.range ns.length) (i := i) (by simpa using hi)
   simpa using this
  have ih := to_loopk qc root ns out seen t hn d (i + 1) (by omega)
  have hb : decide ((i : Int) < ((A9 ns).length : Int)) = true := by rw [Ay]; exact dlt hi
  have hr : 0 ≤ (i : Int) ∧ (A9 ns)[((i : Int)).toNat]? = some (ns[i]).cs := ⟨by omega, AS (List.getElem?_eq_getElem hi)⟩
  have hld : AE C0 4 (AK ns.length seen) (0 + i * 1) = some (vb (seen.contains (i : Int))) := by rw [ld1 agg4, metC_at hi]
  have hz : BP ns i = ns[i].zero := by simp only [BP, List.getElem?_eq_getElem hi]
  have hq := nod_zero ns[i]
  rw [hd, List.all_cons, hz]
  generalize ns[i] = n at hr hq ⊢
  obtain ⟨b, r, nv, nl, nr, nu⟩ := n
  cases hm : seen.contains (i : Int) with
  | true =>
   rw [hm] at hld
   rw [Bool.true_or, Bool.true_and]
   exact Aa _ _ _ _ _ _ (to_metk qc root i ((i + 1 : Nat) : Int) _ _ _ _ _ i b r nv nl nr nu _ _) (A0 hb (A0 hr (A0 ⟨rfl, hi⟩ (A0 hld (A0 (Ag (by omega)) (A0 rfl (A0 (toX_freek qc _ _ _ _ _ _ _) (A0 rfl (A0 ih A2)))))))))
  | false =>
   rw [hm] at hld
   rw [Bool.false_or]
   cases hc : Nod.zero ⟨b, r, nv, nl, nr, nu⟩ with
   | true =>
    rw [hc] at hq
    rw [Bool.true_and]
    exact Aa _ _ _ _ _ _ (to_zerok qc root i ((i + 1 : Nat) : Int) _ _ _ _ _ i b r nv nl nr nu _ _) (A0 hb (A0 hr (A0 ⟨rfl, hi⟩ (A0 hld (A0 hq (A0 (Ag (by omega)) (A0 rfl (A0 (toX_freek qc _ _ _ _ _ _ _) (A0 rfl (A0 ih A2))))))))))
   | false =>
    rw [hc] at hq
    rw [Bool.false_and]
    exact B4 (to_badk qc root i _ _ _ _ _ i b r nv nl nr nu) (A0 hb (A0 hr (A0 ⟨rfl, hi⟩ (A0 hld (A0 hq (A0 rfl (A0 (toX_freek qc _ _ _ _ _ _ _) (A0 rfl A2))))))))
noncomputable def toCk (qc : List DV) (root : Int) (rows : A8) (sc : Ah) : SM Res := AY CKk Ab 60 (.call 183 [.ptr (A1 182 11) 0 0] (tbHk qc root rows)) sc
theorem to_longk (qc : List DV) (root : Int) (rows : A8) : toCk qc root rows [(A1 183 14, .b true)] = some (.val (.tup [.d dnil, vb false]) (tbHk qc root rows), [], [decide ((rows.length : Int) > 64) = true]) := by kernel_rfl
def toIk (qc : List DV) (root : Int) (rows : A8) (n : Nat) (z : Bool) (a : AV) (cs : List AV) (t : AC) (l : List Prop) : List Prop := (decide ((rows.length : Int) > 64) = false) :: mkOb n rows.length :: (Ev CKk Ab (.call 216 (twAk root (-1) n) (Bp qc root rows (.d dnil) (mkN n) [])) (.val (vb z) (Bp qc root rows a cs t))) :: l
def toJk (qc : List DV) (root : Int) (rows : A8) (n : Nat) (z : Bool) (a : AV) (cs : List AV) (t : AC) (l : Ah) : Ah := (A1 183 14, .b false) :: (A1 183 21, .mks n) :: (A1 183 29, .call (vb z) (Bp qc root rows a cs t)) :: l
theorem to_nok (qc : List DV) (root : Int) (rows : A8) (n : Nat) (a : AV) (cs : List AV) (t : AC) : toCk qc root rows (toJk qc root rows n false a cs t []) = some (.val (.tup [.d dnil, vb false]) (Bp qc root rows a cs t), [], toIk qc root rows n false a cs t []) := by kernel_rfl
theorem to_ink (qc : List DV) (root : Int) (rows : A8) (n : Nat) (a : AV) (cs : List AV) (t : AC) : toCk qc root rows (toJk qc root rows n true a cs t [(A1 183 8001, .loop [4, 5, 35, 36, 37] .ret (toRetk qc root rows a cs t))]) = some (.val (.tup [.d dnil, vb false]) (Bp qc root rows a cs t), [], toIk qc root rows n true a cs t [Ev CKk Ab (.code 183 false (BE Tryz.prog 183 0) (toHdk qc root rows a cs t n 0)) (.code .ret (toRetk qc root rows a cs t))]) := by kernel_rfl
theorem to_okk (qc : List DV) (root : Int) (rows : A8) (n : Nat) (a : AV) (cs : List AV) (t : AC) : toCk qc root rows (toJk qc root rows n true a cs t [(A1 183 8001, .loop [4, 5, 35, 36, 37] (.exit 0) (toOutk qc root rows a cs t))]) = some (.val (.tup [a, vb true]) (Bp qc root rows a cs t), [], toIk qc root rows n true a cs t [Ev CKk Ab (.code 183 false (BE Tryz.prog 183 0) (toHdk qc root rows a cs t n 0)) (.code (.exit 0) (toOutk qc root rows a cs t))]) := by kernel_rfl
theorem to_orderk (qc : List DV) (root : Int) (ns : List Nod) : match ordO root ns with
  | some l => ∃ cs, Ev CKk Ab (.call 183 [.ptr (A1 182 11) 0 0] (tbHk qc root (A9 ns))) (.val (.tup [ouA l, vb true]) (Bp qc root (A9 ns) (ouA l) cs (ouT l)))
  | none => ∃ h, Ev CKk Ab (.call 183 [.ptr (A1 182 11) 0 0] (tbHk qc root (A9 ns))) (.val (.tup [.d dnil, vb false]) h) := by
 unfold ordO
 by_cases h64 : 64 < ns.length
 ·rw [if_pos h64]
  exact ⟨_, Aa _ _ _ _ _ _ (to_longk qc root _) (A0 (decide_eq_true (by rw [Ay]; omega)) A2)⟩
 ·rw [if_neg h64]
  have b0 : decide (((A9 ns).length : Int) > 64) = false := decide_eq_false (by rw [Ay]; omega)
  have b1 : mkOb ns.length ((A9 ns).length : Nat) := by rw [Ay]; exact mkOb_ok (by omega)
  have hw := tw_walkk qc root ns (by omega) (ns.length + 1) root (-1) [] [] (gIn_nil ns) (by rw [Cx]; omega) (Nat.le_refl _)
  have em : AK ns.length [] = mkN ns.length := metC_nil _
  rw [em] at hw
  have eo : ouA [] = .d dnil := rfl
  have et : ouT [] = [] := rfl
  rw [eo, et] at hw
  have e : AZ ns (ns.length + 1) root (-1) [] = B3 ns root (-1) [] := rfl
  rw [e] at hw
  generalize B3 ns root (-1) [] = g at hw ⊢
  obtain ⟨l, s1, z⟩ := g
  simp only [List.nil_append] at hw ⊢
  cases z with
  | false =>
   obtain ⟨a, cs, t, he⟩ := hw.2 rfl
   simp only [Bool.false_and, Bool.false_eq_true, if_false]
   exact ⟨_, Aa _ _ _ _ _ _ (to_nok qc root _ _ a cs t) (A0 b0 (A0 b1 (A0 he A2)))⟩
  | true =>
   have he := hw.1 rfl
   have hk := to_loopk qc root ns l s1 (ouT l) (by omega) ns.length 0 (by omega)
   rw [List.drop_zero] at hk
   simp only [Bool.true_and]
   cases hc : ((List.range ns.length).all fun j : Nat => s1.contains (j : Int) || BP ns j) with
   | false =>
    rw [hc] at hk
    simp only [Bool.false_eq_true, if_false]
    exact ⟨_, Aa _ _ _ _ _ _ (to_ink qc root _ _ _ _ _) (A0 b0 (A0 b1 (A0 he (A0 hk A2))))⟩
   | true =>
    rw [hc] at hk
    simp only [if_true]
    exact ⟨_, Aa _ _ _ _ _ _ (to_okk qc root _ _ _ _ _) (A0 b0 (A0 b1 (A0 he (A0 hk A2))))⟩
def wpHdk (qc : List DV) (root : Int) (rows ls : A8) (g1 : Nat) (cs : List AV) (a : AV) (t : AC) (i : Int) : St := { σ := Ap 33 [(1, .ptr (A1 187 1) 0 0), (5, a), (14, .st 1 ls (A1 216 74) g1), (15, vi ls.length), (16, vi i)], h := Bp qc root rows (.st 1 ls (A1 216 74) g1) cs t }
def wpOutk (qc : List DV) (root : Int) (rows ls : A8) (g1 : Nat) (cs : List AV) (a : AV) (t : AC) : St := { σ := Ap 33 [(5, a)], h := Bp qc root rows (.st 1 ls (A1 216 74) g1) cs t }
theorem wp_exitk (qc : List DV) (root i : Int) (rows ls : A8) (g1 : Nat) (cs : List AV) (a : AV) (t : AC) : symM CKk Ab 60 187 false (BE Tryz.prog 187 0) (wpHdk qc root rows ls g1 cs a t i) [(A1 187 17, .b false)] [5] = some ((.exit 0, wpOutk qc root rows ls g1 cs a t), [], [decide (i < (ls.length : Int)) = false]) := by kernel_rfl
theorem wp_nk (qc : List DV) (root i x i' : Int) (rows ls : A8) (g1 : Nat) (cs : List AV) (b r : Bool) (nv nl nr nu : Int) (X : X) (st : St) : AY CKk Ab 60 (.code 187 false (BE Tryz.prog 187 0) (wpHdk qc root rows ls g1 cs (.d dnil) [(A1 216 74, g1)] i)) (wpS x b r nv nl nr nu i' X st) =
  some (.code X st, [], [decide (i < (ls.length : Int)) = true, 0 ≤ i ∧ ls[i.toNat]? = some [di x], 0 ≤ x ∧ rows[x.toNat]? = some (BU b r nv nl nr nu), false = false ∧ Am 0 1 16, IntKind.wrap .i64 (i + 1) = i', Ev CKk Ab (.code 187 false (BE Tryz.prog 187 0) (wpHdk qc root rows ls g1 cs (.st 2 [[du nv, di x]] (A1 187 30) 1) [(A1 187 30, 1), (A1 216 74, g1)] i')) (.code X st)]) := by kernel_rfl
theorem wp_sk (qc : List DV) (root i x i' : Int) (rows ls out : A8) (g1 g : Nat) (cs : List AV) (b r : Bool) (nv nl nr nu : Int) (X : X) (st : St) : AY CKk Ab 60 (.code 187 false (BE Tryz.prog 187 0) (wpHdk qc root rows ls g1 cs (.st 2 out (A1 187 30) g) [(A1 187 30, g), (A1 216 74, g1)] i)) (wpS x b r nv nl nr nu i' X st) =
  some (.code X st, [], [decide (i < (ls.length : Int)) = true, 0 ≤ i ∧ ls[i.toNat]? = some [di x], 0 ≤ x ∧ rows[x.toNat]? = some (BU b r nv nl nr nu), false = false ∧ (g = g ∧ Am out.length 1 16), IntKind.wrap .i64 (i + 1) = i', Ev CKk Ab (.code 187 false (BE Tryz.prog 187 0) (wpHdk qc root rows ls g1 cs (.st 2 (out ++ [[du nv, di x]]) (A1 187 30) (g + 1 + 1)) [(A1 187 30, g + 1 + 1), (A1 216 74, g1)] i')) (.code X st)]) := by kernel_rfl
theorem wp_loopk (qc : List DV) (root : Int) (ns : List Nod) (ls : List Int) (g1 : Nat) (cs : List AV) (hn : ns.length ≤ 64) (hl : ls.length ≤ 64) (hat : ∀ x ∈ ls, ∃ (i : Nat) (n : Nod), x = (i : Int) ∧ ns[i]? = some n ∧ AP ns x = (n.v, x)) : ∀ (d i : Nat), i + d = ls.length →
  Ev CKk Ab (.code 187 false (BE Tryz.prog 187 0) (wpHdk qc root (A9 ns) (A6 ls) g1 cs (apR 2 (A1 187 30) (Ai ((ls.map (AP ns)).take i))) (wpT g1 (Ai ((ls.map (AP ns)).take i))) i)) (.code (.exit 0) (wpOutk qc root (A9 ns) (A6 ls) g1 cs (apR 2 (A1 187 30) (Ai (ls.map (AP ns)))) (wpT g1 (Ai (ls.map (AP ns))))))
 | 0, i, h => by
  have : (ls.map (AP ns)).take i = ls.map (AP ns) := List.take_of_length_le (by rw [List.length_map]; omega)
  rw [this]
  exact Ac (wp_exitk qc _ _ _ _ _ _ _ _) (A0 (by rw [Ax]; exact dge (by omega)) A2)
 | d + 1, i, h => by
  have hi : i < ls.length := by omega
  have ih := wp_loopk qc root ns ls g1 cs hn hl hat d (i + 1) (by omega)
  have ht : (ls.map (AP ns)).take (i + 1) = (ls.map (AP ns)).take i ++ [AP ns ls[i]] := by
   rw [List.take_succ_eq_append_getElem (by rw [List.length_map]; exact hi), List.getElem_map]
  have hk : Ai ((ls.map (AP ns)).take (i + 1)) = Ai ((ls.map (AP ns)).take i) ++ [kD (AP ns ls[i])] := by rw [ht]; simp [Ai]
  rw [hk] at ih
  have hlen : (Ai ((ls.map (AP ns)).take i)).length = i := by simp [Ai]; omega
  obtain ⟨j, n, hx, hnj, hky⟩ := hat _ (List.getElem_mem hi)
  have hb : decide ((i : Int) < ((A6 ls).length : Int)) = true := by rw [Ax]; exact dlt hi
  have hr : 0 ≤ (i : Int) ∧ (A6 ls)[((i : Int)).toNat]? = some [di ls[i]] := ⟨by omega, B2 (List.getElem?_eq_getElem hi)⟩
  have hq : 0 ≤ (j : Int) ∧ (A9 ns)[((j : Int)).toNat]? = some n.cs := ⟨by omega, AS hnj⟩
  rw [hky] at ih
  rw [hx] at hr ih
  obtain ⟨b, r, nv, nl, nr, nu⟩ := n
  generalize Ai ((ls.map (AP ns)).take i) = out at ih hlen ⊢
  cases out with
  | nil => exact Aa _ _ _ _ _ _ (wp_nk qc root i j ((i + 1 : Nat) : Int) _ _ _ _ _ _ _ _ _ _ _ _) (A0 hb (A0 hr (A0 hq (A0 ⟨rfl, by unfold Am; omega⟩ (A0 (Ag (by omega)) (A0 ih A2))))))
  | cons c l =>
   rw [apR_sn, wpT_sn] at ih
   exact Aa _ _ _ _ _ _ (wp_sk qc root i j ((i + 1 : Nat) : Int) _ _ _ _ _ _ _ _ _ _ _ _ _ _) (A0 hb (A0 hr (A0 hq (A0 ⟨rfl, rfl, by unfold Am; omega⟩ (A0 (Ag (by omega)) (A0 ih A2))))))
def kyB (rows : A8) (a : AV) (h : H) (l : Ah) : Ah := (A1 182 6, .prim [.one (.mn 6 rows)]) :: (A1 187 11, .call (.tup [a, vb true]) h) :: l
def kyO (qc : List DV) (root : Int) (rows : A8) (a : AV) (h : H) (l : List Prop) : List Prop := (clnS 6 [.one (.mn 6 rows)] = some [.one (.mn 6 rows)]) :: (Ev CKk Ab (.call 183 [.ptr (A1 182 11) 0 0] (tbHk qc root rows)) (.val (.tup [a, vb true]) h)) :: l
def kyN (root cur v m load : Int) (rows ws : A8) (cs : List AV) : H := Bp (Bs root cur v m load rows ws) root rows (.d dnil) cs []
theorem ky_nn (root cur v m load : Int) (rows ws out : A8) (cs : List AV) : Cs CKk Ab 60 138 (qA root cur v m load rows ws) (kyB rows (.d dnil) (kyN root cur v m load rows ws cs) [(A1 138 9, .b false), (A1 138 21, .prim [.one (.mn 2 out)])]) =
  some ([.one (.mn 2 out)], [], kyO (Bs root cur v m load rows ws) root rows (.d dnil) (kyN root cur v m load rows ws cs) [(cur != -1) = false, ksS [pu m, .one dnil] = some [.one (.mn 2 out)]]) := by kernel_rfl
theorem ky_nc (root cur v m load : Int) (rows ws out : A8) (cs : List AV) : Cs CKk Ab 60 138 (qA root cur v m load rows ws) (kyB rows (.d dnil) (kyN root cur v m load rows ws cs) [(A1 138 9, .b true), (A1 138 17, .app false), (A1 138 21, .prim [.one (.mn 2 out)])]) =
  some ([.one (.mn 2 out)], [], kyO (Bs root cur v m load rows ws) root rows (.d dnil) (kyN root cur v m load rows ws cs) [(cur != -1) = true, false = false ∧ Am 0 1 16, ksS [pu m, .one (.sl 2 false [[du v, di cur]])] = some [.one (.mn 2 out)]]) := by kernel_rfl
def kyS (root cur v m load : Int) (rows ws ls : A8) (g1 : Nat) (cs : List AV) : H := Bp (Bs root cur v m load rows ws) root rows (.st 1 ls (A1 216 74) g1) cs [(A1 216 74, g1)]
def kyT (root cur v m load : Int) (rows ws ls ks : A8) (g1 g : Nat) (cs : List AV) : St := wpOutk (Bs root cur v m load rows ws) root rows ls g1 cs (.st 2 ks (A1 187 30) g) [(A1 187 30, g), (A1 216 74, g1)]
def kyE (root cur v m load : Int) (rows ws ls ks : A8) (g1 g : Nat) (cs : List AV) : Prop := Ev CKk Ab (.code 187 false (BE Tryz.prog 187 0) (wpHdk (Bs root cur v m load rows ws) root rows ls g1 cs (.d dnil) [(A1 216 74, g1)] 0)) (.code (.exit 0) (kyT root cur v m load rows ws ls ks g1 g cs))
theorem ky_sn (root cur v m load : Int) (rows ws ls ks out : A8) (g1 g : Nat) (cs : List AV) : Cs CKk Ab 60 138 (qA root cur v m load rows ws) (kyB rows (.st 1 ls (A1 216 74) g1) (kyS root cur v m load rows ws ls g1 cs) [(A1 187 8001, .loop [1, 5, 14, 15, 16] (.exit 0) (kyT root cur v m load rows ws ls ks g1 g cs)), (A1 138 9, .b false), (A1 138 21, .prim [.one (.mn 2 out)])]) =
  some ([.one (.mn 2 out)], [], kyO (Bs root cur v m load rows ws) root rows (.st 1 ls (A1 216 74) g1) (kyS root cur v m load rows ws ls g1 cs) [kyE root cur v m load rows ws ls ks g1 g cs, (cur != -1) = false, ksS [pu m, .one (.sl 2 false ks)] = some [.one (.mn 2 out)]]) := by kernel_rfl
theorem ky_sc (root cur v m load : Int) (rows ws ls ks out : A8) (g1 g : Nat) (cs : List AV) : Cs CKk Ab 60 138 (qA root cur v m load rows ws) (kyB rows (.st 1 ls (A1 216 74) g1) (kyS root cur v m load rows ws ls g1 cs) [(A1 187 8001, .loop [1, 5, 14, 15, 16] (.exit 0) (kyT root cur v m load rows ws ls ks g1 g cs)), (A1 138 9, .b true), (A1 138 17, .app false), (A1 138 21, .prim [.one (.mn 2 out)])]) =
  some ([.one (.mn 2 out)], [], kyO (Bs root cur v m load rows ws) root rows (.st 1 ls (A1 216 74) g1) (kyS root cur v m load rows ws ls g1 cs) [kyE root cur v m load rows ws ls ks g1 g cs, (cur != -1) = true, false = false ∧ (g = g ∧ Am ks.length 1 16), ksS [pu m, .one (.sl 2 false (ks ++ [[du v, di cur]]))] = some [.one (.mn 2 out)]]) := by kernel_rfl
noncomputable def kqV : Option Que → Option (List PV)
 | some q => if (ordO q.root q.ns).isSome = true ∧ -1 ≤ q.cur then some [.one (.mn 2 (Ai (srtP q.m q.keys)))] else none
 | none => none
noncomputable def kqS : Spec
 | [.agg cs] => kqV (queR cs)
 | _ => none
theorem kqS_at {q : Que} (ok : q.Ok) (h1 : (ordO q.root q.ns).isSome = true) (h2 : -1 ≤ q.cur) : kqS [.agg q.cs] = some [.one (.mn 2 (Ai (srtP q.m q.keys)))] := by
 show kqV (queR q.cs) = _
 rw [queR_cs ok]
 unfold kqV
 simp only
 rw [if_pos ⟨h1, h2⟩]
theorem srtP_nil (m : Nat) : srtP m [] = [] := by unfold srtP; rw [dif_neg (fun h => h.2 rfl)]
theorem ksS_nil (m : Int) (k : Nat) : ksS [pu m, .one dnil] = some [.one (.mn 2 (Ai (srtP k [])))] := by
 rw [srtP_nil]; rfl
theorem keysP_sat : AJ C0 138 kqS := AJ.ctx (C := CKk) rfl rfl (Af (O := Ab) hPKk (fun _ _ h => h.elim) Bm fun ps rs hs => by
 unfold kqS at hs
 split at hs
 ·rename_i cs
  unfold kqV at hs
  split at hs
  ·rename_i q hq
   split at hs
   ·rename_i hc
    obtain ⟨hc1, hc2⟩ := hc
    simp only [Option.some.injEq] at hs
    subst hs
    obtain ⟨rfl, ok⟩ := queR_eq hq
    have hcl := clnS_at (sz := 6) (rows := A9 q.ns) (by rw [Ay]; exact ok.n)
    have hord := to_orderk (Bs q.root q.cur q.v q.m q.load (A9 q.ns) (A6 q.ws)) q.root q.ns
    have hlt := keys_lt ok
    have hlen := keys_len q
    cases ho : ordO q.root q.ns with
    | none => rw [ho] at hc1; cases hc1
    | some l =>
     rw [ho] at hord
     obtain ⟨cs, hord⟩ := hord
     obtain ⟨h64, hll, -⟩ := ordO_tree ho
     have hko : keysO q.root q.ns = l.map (AP q.ns) := by unfold keysO; rw [ho]
     unfold Que.keys at hlt hlen ⊢
     rw [hko] at hlt hlen ⊢
     by_cases hcur : q.cur = -1
     ·have b1 : (q.cur != -1) = false := by simp [hcur]
      rw [if_neg (by omega), List.append_nil] at hlt hlen ⊢
      cases l with
      | nil =>
       have h0 := ksS_nil (q.m : Int) q.m
       have e1 : ouA [] = .d dnil := rfl
       have e2 : ouT [] = [] := rfl
       rw [e1, e2] at hord
       rw [List.map_nil]
       generalize srtP q.m [] = o at h0 ⊢
       have hob : AI (kyO (Bs q.root q.cur q.v q.m q.load (A9 q.ns) (A6 q.ws)) q.root (A9 q.ns) (.d dnil) (kyN q.root q.cur q.v q.m q.load (A9 q.ns) (A6 q.ws) cs) [(q.cur != -1) = false, ksS [pu q.m, .one dnil] = some [.one (.mn 2 (Ai o))]]) := A0 hcl (A0 hord (A0 b1 (A0 h0 A2)))
       exact A4 (ky_nn q.root q.cur q.v q.m q.load (A9 q.ns) (A6 q.ws) (Ai o) cs) hob
      | cons x l =>
       have hk := wp_loopk (Bs q.root q.cur q.v q.m q.load (A9 q.ns) (A6 q.ws)) q.root q.ns (x :: l) (2 * (A6 l).length + 1) cs h64 (by omega) (ordO_at ho) (x :: l).length 0 (by omega)
       have hne : ((x :: l).map (AP q.ns)).isEmpty = false := rfl
       have hs := ksS_sl (m := q.m) hlt (by omega) hne
       exact A4 (ky_sn q.root q.cur q.v q.m q.load _ _ _ _ _ _ _ cs) (A0 hcl (A0 hord (A0 hk (A0 b1 (A0 hs A2)))))
     ·have b1 : (q.cur != -1) = true := by simpa using hcur
      rw [if_pos (by omega)] at hlt hlen ⊢
      have e : Ai (l.map (AP q.ns) ++ [(q.v, q.cur)]) = Ai (l.map (AP q.ns)) ++ [[du q.v, di q.cur]] := by simp [Ai, kD]
      have hs := ksS_sl (m := q.m) hlt (by omega) (by simp)
      rw [e] at hs
      cases l with
      | nil =>
       have e1 : ouA [] = .d dnil := rfl
       have e2 : ouT [] = [] := rfl
       rw [e1, e2] at hord
       exact A4 (ky_nc q.root q.cur q.v q.m q.load _ _ _ cs) (A0 hcl (A0 hord (A0 b1 (A0 ⟨rfl, by unfold Am; omega⟩ (A0 hs A2)))))
      | cons x l =>
       have hk := wp_loopk (Bs q.root q.cur q.v q.m q.load (A9 q.ns) (A6 q.ws)) q.root q.ns (x :: l) (2 * (A6 l).length + 1) cs h64 (by omega) (ordO_at ho) (x :: l).length 0 (by omega)
       exact A4 (ky_sc q.root q.cur q.v q.m q.load _ _ _ _ _ _ _ cs) (A0 hcl (A0 hord (A0 hk (A0 b1 (A0 ⟨rfl, rfl, by unfold Am; simp only [List.length_cons, List.length_map] at hll ⊢; omega⟩ (A0 hs A2))))))
   ·cases hs
  ·cases hs
 ·cases hs)
theorem hp_t (root cur v m load i : Int) (rows ws : A8) : Cs C0 Ab 60 132 (qA root cur v m load rows ws ++ [A5 i]) [(A1 132 8, .b true)] = some ([A3 true], [], [(cur == i) = true]) := by kernel_rfl
theorem hp_f (root cur v m load i : Int) (rows ws : A8) (b r : Bool) (nv nl nr nu : Int) : Cs C0 Ab 60 132 (qA root cur v m load rows ws ++ [A5 i]) [(A1 132 8, .b false), (A1 132 14, .row (BU b r nv nl nr nu))] =
  some ([A3 b], [], [(cur == i) = false, 0 ≤ i ∧ rows[i.toNat]? = some (BU b r nv nl nr nu)]) := by kernel_rfl
theorem beq_swap (a b : Int) : (a == b) = (b == a) := by
 by_cases h : a = b
 ·subst h; rfl
 ·have h' : ¬ b = a := fun e => h e.symm
  rw [beq_eq_false_iff_ne.2 h, beq_eq_false_iff_ne.2 h']
theorem hereP_sat : AJ C0 132 heS := Af (O := Ab) BN (fun _ _ h => h.elim) Bm fun ps rs hs => by
 unfold heS at hs
 split at hs
 ·rename_i cs i
  unfold heV at hs
  split at hs
  ·rename_i q hq
   split at hs
   ·rename_i hc
    obtain ⟨j, rfl⟩ := Int.eq_ofNat_of_zero_le hc.1
    have hj : j < q.ns.length := by omega
    simp only [Option.some.injEq, Int.toNat_natCast] at hs
    subst hs
    obtain ⟨rfl, ok⟩ := queR_eq hq
    unfold Que.here
    rw [beq_swap]
    cases hb : (q.cur == (j : Int)) with
    | true => exact A4 (hp_t q.root q.cur q.v q.m q.load j _ _) (A0 hb A2)
    | false =>
     have hi : Bw q.ns j = q.ns[j].inn := by simp only [Bw, List.getElem?_eq_getElem hj]
     rw [Bool.false_or, hi]
     exact A4 (hp_f q.root q.cur q.v q.m q.load j _ _ q.ns[j].inn q.ns[j].red q.ns[j].v q.ns[j].l q.ns[j].r q.ns[j].u) (A0 hb (A0 ⟨by omega, AS (List.getElem?_eq_getElem hj)⟩ A2))
   ·cases hs
  ·cases hs
 ·cases hs
def weS : Spec
 | [.one (.v (.int .i64 w))] => some [A3 (decide (1 ≤ w ∧ w ≤ 88761))]
 | _ => none
theorem we_1 (w : Int) : Cs C0 Ab 60 133 [A5 w] [(A1 133 4, .b false)] = some ([A3 false], [], [decide (w ≥ 1) = false]) := by kernel_rfl
theorem we_2 (w : Int) (z : Bool) : Cs C0 Ab 60 133 [A5 w] [(A1 133 4, .b true), (A1 133 7, .b z)] = some ([A3 z], [], [decide (w ≥ 1) = true, decide (w ≤ 88761) = z]) := by kernel_rfl
theorem we_sat : AJ C0 133 weS := Af (O := Ab) BN (fun _ _ h => h.elim) Bm fun ps rs hs => by
 unfold weS at hs
 split at hs
 ·rename_i w
  simp only [Option.some.injEq] at hs
  subst hs
  by_cases h : 1 ≤ w
  ·have e : decide (1 ≤ w ∧ w ≤ 88761) = decide (w ≤ 88761) := by simp [h]
   rw [e]
   exact A4 (we_2 w _) (A0 (decide_eq_true h) (A0 rfl A2))
  ·rw [decide_eq_false (fun h' => h h'.1)]
   exact A4 (we_1 w) (A0 (decide_eq_false h) A2)
 ·cases hs
noncomputable def CQq : Ctx := Ad (Ad (Ad (Ad (Ad C0 131 treS30) 132 heS) 133 weS) 138 kqS) 135 lagS
theorem hPQq : Aw CQq := A7 (A7 (A7 (A7 (A7 BN (treeP_sat.ctx rfl rfl) (by kernel_rfl)) (hereP_sat.ctx rfl rfl) (by kernel_rfl)) (we_sat.ctx rfl rfl) (by kernel_rfl)) (keysP_sat.ctx rfl rfl) (by kernel_rfl)) (lagP_sat.ctx rfl rfl) (by kernel_rfl)
noncomputable def CQp : Ctx := { CQq with kp := fun f t => f == 75 && t == 96 }
theorem hPQp : Aw CQp := hPQq
def qpH (root cur v m load : Int) (rows ws : A8) : H := { objs := [(A1 75 1, 1, [.cells ((Bs root cur v m load rows ws).map .d) false])] }
def qpF : AV := .fn (.fn (.func 134)) [] [.ptr (A1 75 1) 0 0]
noncomputable def fcC (root cur v m load : Int) (rows ws : A8) (w y L : Int) (sc : Ah) : SM (AV × H) := symCD CQp Ab 60 134 [.agg [.d (du w), .d (di y)], .ptr (A1 75 1) 0 0] (qpH root cur v m load rows ws) ((A1 134 9, .prim [A5 L]) :: sc) [3] [A1 134 2]
def fcO (m w L : Int) (l : List Prop) : List Prop := [lagS [pu w, pu m] = some [A5 L]] ++ l ++ [true = true, true = true, true = true]
theorem fc_1 (root cur v m load w y L : Int) (rows ws : A8) : fcC root cur v m load rows ws w y L [(A1 188 10, .b true), (A1 134 13, .b true)] = some ((vb true, qpH root cur v m load rows ws), [], fcO m w L [decide (L < -1125899906842624) = true, (L != -1125899906842624) = true]) := by kernel_rfl
theorem fc_2 (root cur v m load w y L : Int) (rows ws : A8) : fcC root cur v m load rows ws w y L [(A1 188 10, .b false), (A1 188 15, .b true), (A1 134 13, .b true)] = some ((vb true, qpH root cur v m load rows ws), [], fcO m w L [decide (L < -1125899906842624) = false, decide (L > 1125899906842624) = true, (L != 1125899906842624) = true]) := by kernel_rfl
theorem fc_3 (root cur v m load w y L : Int) (rows ws : A8) : fcC root cur v m load rows ws w y L [(A1 188 10, .b false), (A1 188 15, .b false), (A1 134 13, .b false)] = some ((vb false, qpH root cur v m load rows ws), [], fcO m w L [decide (L < -1125899906842624) = false, decide (L > 1125899906842624) = false, (L != L) = false]) := by kernel_rfl
def fcE (root cur v m load : Int) (rows ws : A8) (w y : Int) (z : Bool) : Prop := Ev CQp Ab (.call 134 [.agg [.d (du w), .d (di y)], .ptr (A1 75 1) 0 0] (qpH root cur v m load rows ws)) (.val (vb z) (qpH root cur v m load rows ws))
def ifHd (root cur v m load : Int) (rows ws ks : A8) (i : Int) : St := { σ := Ap 19 [(0, .d (.mn 2 ks)), (1, qpF), (7, vi ks.length), (8, vi i)], h := qpH root cur v m load rows ws }
def ifOut (root cur v m load : Int) (rows ws : A8) : St := { σ := Ap 19 [], h := qpH root cur v m load rows ws }
def ifRet (root cur v m load : Int) (rows ws : A8) (i : Int) : St := { σ := Ap 19 [(4, vi i)], h := qpH root cur v m load rows ws }
theorem if_exit (root cur v m load i : Int) (rows ws ks : A8) : symM CQp Ab 60 189 false (BE Tryz.prog 189 0) (ifHd root cur v m load rows ws ks i) [(A1 189 9, .b false)] [] = some ((.exit 0, ifOut root cur v m load rows ws), [], [decide (i < (ks.length : Int)) = false]) := by kernel_rfl
theorem if_hit (root cur v m load i w y : Int) (rows ws ks : A8) : symM CQp Ab 60 189 false (BE Tryz.prog 189 0) (ifHd root cur v m load rows ws ks i) [(A1 189 9, .b true), (A1 189 14, .row [du w, di y]), (A1 189 16, .call (vb true) (qpH root cur v m load rows ws))] [4] = some ((.ret, ifRet root cur v m load rows ws i), [], [decide (i < (ks.length : Int)) = true, 0 ≤ i ∧ ks[i.toNat]? = some [du w, di y], fcE root cur v m load rows ws w y true]) := by kernel_rfl
theorem if_step (root cur v m load i w y i' : Int) (rows ws ks : A8) (X : X) (st : St) : AY CQp Ab 60 (.code 189 false (BE Tryz.prog 189 0) (ifHd root cur v m load rows ws ks i)) [(A1 189 9, .b true), (A1 189 14, .row [du w, di y]), (A1 189 16, .call (vb false) (qpH root cur v m load rows ws)), (A1 189 18, .int i'), (A1 189 8001, .loop [0, 1, 7, 8] X st)] =
  some (.code X st, [], [decide (i < (ks.length : Int)) = true, 0 ≤ i ∧ ks[i.toNat]? = some [du w, di y], fcE root cur v m load rows ws w y false, IntKind.wrap .i64 (i + 1) = i', Ev CQp Ab (.code 189 false (BE Tryz.prog 189 0) (ifHd root cur v m load rows ws ks i')) (.code X st)]) := by kernel_rfl
noncomputable def cfC (root cur v m load : Int) (rows ws ks : A8) (sc : Ah) : SM Res := AY CQp Ab 60 (.call 137 [.d (.mn 2 ks), qpF] (qpH root cur v m load rows ws)) sc
def ifE (root cur v m load : Int) (rows ws ks : A8) (x : X) (s : St) : Prop := Ev CQp Ab (.code 189 false (BE Tryz.prog 189 0) (ifHd root cur v m load rows ws ks 0)) (.code x s)
theorem cf_t (root cur v m load i : Int) (rows ws ks : A8) : cfC root cur v m load rows ws ks [(A1 189 8001, .loop [0, 1, 7, 8] .ret (ifRet root cur v m load rows ws i)), (A1 137 8, .b true)] = some (.val (vb true) (qpH root cur v m load rows ws), [], [ifE root cur v m load rows ws ks .ret (ifRet root cur v m load rows ws i), decide (i ≥ 0) = true]) := by kernel_rfl
theorem cf_f (root cur v m load : Int) (rows ws ks : A8) : cfC root cur v m load rows ws ks [(A1 189 8001, .loop [0, 1, 7, 8] (.exit 0) (ifOut root cur v m load rows ws))] = some (.val (vb false) (qpH root cur v m load rows ws), [], [ifE root cur v m load rows ws ks (.exit 0) (ifOut root cur v m load rows ws)]) := by kernel_rfl
def cfE (root cur v m load : Int) (rows ws ks : A8) (z : Bool) : Prop := Ev CQp Ab (.call 137 [.d (.mn 2 ks), qpF] (qpH root cur v m load rows ws)) (.val (vb z) (qpH root cur v m load rows ws))
def qp0 (root cur v m load : Int) (rows ws : A8) (s i : Int) : St := { σ := Ap 99 [(1, .ptr (A1 75 1) 0 0), (4, vi s), (61, .d (.mn 1 ws)), (62, vi ws.length), (63, vi i)], h := qpH root cur v m load rows ws }
def qpO (root cur v m load : Int) (rows ws : A8) (s : Int) : St := { σ := Ap 99 [(1, .ptr (A1 75 1) 0 0), (4, vi s)], h := qpH root cur v m load rows ws }
def qpR (root cur v m load : Int) (rows ws : A8) : St := { σ := Ap 99 [(2, vb false)], h := qpH root cur v m load rows ws }
noncomputable def p0C (root cur v m load : Int) (rows ws : A8) (s i : Int) (sc : Ah) (keep : List Nat) : SM (X × St) := symM CQp Ab 60 75 false (BE Tryz.prog 75 0) (qp0 root cur v m load rows ws s i) sc keep
theorem p0_exit (root cur v m load s i : Int) (rows ws : A8) : p0C root cur v m load rows ws s i [(A1 75 64, .b false)] [1, 4] = some ((.exit 0, qpO root cur v m load rows ws s), [], [decide (i < (ws.length : Int)) = false]) := by kernel_rfl
def p0S (w : Int) (z y : Bool) (l : Ah) : Ah := (A1 75 64, .b true) :: (A1 75 66, .row [di w]) :: (A1 75 70, .prim [A3 z]) :: (A1 75 73, .prim [A3 y]) :: l
def p0O (root cur v m load i w : Int) (rows ws : A8) (z y : Bool) (l : List Prop) : List Prop := (decide (i < (ws.length : Int)) = true) :: (0 ≤ i ∧ ws[i.toNat]? = some [di w]) :: (heS [.agg (Bs root cur v m load rows ws), A5 i] = some [A3 z]) :: (weS [A5 w] = some [A3 y]) :: l
theorem p0_1 (root cur v m load s i w : Int) (rows ws : A8) : p0C root cur v m load rows ws s i (p0S w true false []) [2] = some ((.ret, qpR root cur v m load rows ws), [], p0O root cur v m load i w rows ws true false []) := by kernel_rfl
theorem p0_2 (root cur v m load s i w : Int) (rows ws : A8) : p0C root cur v m load rows ws s i (p0S w false true []) [2] = some ((.ret, qpR root cur v m load rows ws), [], p0O root cur v m load i w rows ws false true []) := by kernel_rfl
theorem p0_3 (root cur v m load s i w : Int) (rows ws : A8) : p0C root cur v m load rows ws s i (p0S w false false [(A1 75 80, .b true)]) [2] = some ((.ret, qpR root cur v m load rows ws), [], p0O root cur v m load i w rows ws false false [(w != 0) = true]) := by kernel_rfl
def p0N (s' i' : Int) (X : X) (st : St) : Ah := [(A1 75 85, .int s'), (A1 75 86, .int i'), (A1 75 8001, .loop [1, 4, 61, 62, 63] X st)]
def p0K (root cur v m load s i w s' i' : Int) (rows ws : A8) (X : X) (st : St) : List Prop := [IntKind.wrap .i64 (s + w) = s', IntKind.wrap .i64 (i + 1) = i', Ev CQp Ab (.code 75 false (BE Tryz.prog 75 0) (qp0 root cur v m load rows ws s' i')) (.code X st)]
theorem p0_t (root cur v m load s i w s' i' : Int) (rows ws : A8) (X : X) (st : St) : AY CQp Ab 60 (.code 75 false (BE Tryz.prog 75 0) (qp0 root cur v m load rows ws s i)) (p0S w true true (p0N s' i' X st)) =
  some (.code X st, [], p0O root cur v m load i w rows ws true true (p0K root cur v m load s i w s' i' rows ws X st)) := by kernel_rfl
theorem p0_f (root cur v m load s i w s' i' : Int) (rows ws : A8) (X : X) (st : St) : AY CQp Ab 60 (.code 75 false (BE Tryz.prog 75 0) (qp0 root cur v m load rows ws s i)) (p0S w false false ((A1 75 80, .b false) :: p0N s' i' X st)) =
  some (.code X st, [], p0O root cur v m load i w rows ws false false (((w != 0) = false) :: p0K root cur v m load s i w s' i' rows ws X st)) := by kernel_rfl
noncomputable def pV (root cur v m load : Int) (rows ws : A8) (sc : Ah) : SM (List PV) := Cs CQp Ab 60 75 (qA root cur v m load rows ws) sc
def pVT (root m : Int) (rows : A8) (z : Bool) : Prop := treS30 [.agg [di root, .mn 6 rows], pu m] = some [A3 z]
theorem pv1 (root cur v m load : Int) (rows ws : A8) : pV root cur v m load rows ws [(A1 75 17, .b true)] = some ([A3 false], [], [((ws.length : Int) != (rows.length : Int)) = true]) := by kernel_rfl
theorem pv2 (root cur v m load : Int) (rows ws : A8) : pV root cur v m load rows ws [(A1 75 17, .b false), (A1 75 21, .b true)] = some ([A3 false], [], [((ws.length : Int) != (rows.length : Int)) = false, decide (cur < -1) = true]) := by kernel_rfl
theorem pv3 (root cur v m load : Int) (rows ws : A8) : pV root cur v m load rows ws [(A1 75 17, .b false), (A1 75 21, .b false), (A1 75 27, .b true)] = some ([A3 false], [], [((ws.length : Int) != (rows.length : Int)) = false, decide (cur < -1) = false, decide (cur ≥ (rows.length : Int)) = true]) := by kernel_rfl
theorem pv4 (root cur v m load : Int) (rows ws : A8) : pV root cur v m load rows ws [(A1 75 17, .b false), (A1 75 21, .b false), (A1 75 27, .b false), (A1 75 34, .prim [A3 false])] = some ([A3 false], [], [((ws.length : Int) != (rows.length : Int)) = false, decide (cur < -1) = false, decide (cur ≥ (rows.length : Int)) = false, pVT root m rows false]) := by kernel_rfl
theorem pv5 (root cur v m load : Int) (rows ws : A8) : pV root cur v m load rows ws [(A1 75 17, .b false), (A1 75 21, .b false), (A1 75 27, .b false), (A1 75 34, .prim [A3 true]), (A1 75 39, .b true), (A1 75 43, .b true)] = some ([A3 false], [], [((ws.length : Int) != (rows.length : Int)) = false, decide (cur < -1) = false, decide (cur ≥ (rows.length : Int)) = false, pVT root m rows true, (cur == -1) = true, (v != 0) = true]) := by kernel_rfl
theorem pv6 (root cur v m load : Int) (rows ws : A8) (r : Bool) (nv nl nr nu : Int) : pV root cur v m load rows ws [(A1 75 17, .b false), (A1 75 21, .b false), (A1 75 27, .b false), (A1 75 34, .prim [A3 true]), (A1 75 39, .b false), (A1 75 48, .b true), (A1 75 55, .row (BU true r nv nl nr nu))] = some ([A3 false], [], [((ws.length : Int) != (rows.length : Int)) = false, decide (cur < -1) = false, decide (cur ≥ (rows.length : Int)) = false, pVT root m rows true, (cur == -1) = false, (cur != -1) = true, 0 ≤ cur ∧ rows[cur.toNat]? = some (BU true r nv nl nr nu)]) := by kernel_rfl
theorem pv7n (root cur v m load : Int) (rows ws : A8) : pV root cur v m load rows ws [(A1 75 17, .b false), (A1 75 21, .b false), (A1 75 27, .b false), (A1 75 34, .prim [A3 true]), (A1 75 39, .b true), (A1 75 43, .b false), (A1 75 48, .b false), (A1 75 8001, .loop [1, 4, 61, 62, 63] .ret (qpR root cur v m load rows ws))] = some ([A3 false], [], [((ws.length : Int) != (rows.length : Int)) = false, decide (cur < -1) = false, decide (cur ≥ (rows.length : Int)) = false, pVT root m rows true, (cur == -1) = true, (v != 0) = false, (cur != -1) = false, Ev CQp Ab (.code 75 false (BE Tryz.prog 75 0) (qp0 root cur v m load rows ws 0 0)) (.code .ret (qpR root cur v m load rows ws))]) := by kernel_rfl
theorem pv8n (root cur v m load : Int) (rows ws : A8) (s : Int) : pV root cur v m load rows ws [(A1 75 17, .b false), (A1 75 21, .b false), (A1 75 27, .b false), (A1 75 34, .prim [A3 true]), (A1 75 39, .b true), (A1 75 43, .b false), (A1 75 48, .b false), (A1 75 8001, .loop [1, 4, 61, 62, 63] (.exit 0) (qpO root cur v m load rows ws s)), (A1 75 91, .b false)] = some ([A3 false], [], [((ws.length : Int) != (rows.length : Int)) = false, decide (cur < -1) = false, decide (cur ≥ (rows.length : Int)) = false, pVT root m rows true, (cur == -1) = true, (v != 0) = false, (cur != -1) = false, Ev CQp Ab (.code 75 false (BE Tryz.prog 75 0) (qp0 root cur v m load rows ws 0 0)) (.code (.exit 0) (qpO root cur v m load rows ws s)), (s == load) = false]) := by kernel_rfl
theorem pv9nt (root cur v m load : Int) (rows ws : A8) (s : Int) (ks : A8) : pV root cur v m load rows ws [(A1 75 17, .b false), (A1 75 21, .b false), (A1 75 27, .b false), (A1 75 34, .prim [A3 true]), (A1 75 39, .b true), (A1 75 43, .b false), (A1 75 48, .b false), (A1 75 8001, .loop [1, 4, 61, 62, 63] (.exit 0) (qpO root cur v m load rows ws s)), (A1 75 91, .b true), (A1 75 94, .prim [.one (.mn 2 ks)]), (A1 75 96, .call (vb true) (qpH root cur v m load rows ws))] = some ([A3 false], [], [((ws.length : Int) != (rows.length : Int)) = false, decide (cur < -1) = false, decide (cur ≥ (rows.length : Int)) = false, pVT root m rows true, (cur == -1) = true, (v != 0) = false, (cur != -1) = false, Ev CQp Ab (.code 75 false (BE Tryz.prog 75 0) (qp0 root cur v m load rows ws 0 0)) (.code (.exit 0) (qpO root cur v m load rows ws s)), (s == load) = true, kqS [.agg (Bs root cur v m load rows ws)] = some [.one (.mn 2 ks)], cfE root cur v m load rows ws ks true]) := by kernel_rfl
theorem pv9nf (root cur v m load : Int) (rows ws : A8) (s : Int) (ks : A8) : pV root cur v m load rows ws [(A1 75 17, .b false), (A1 75 21, .b false), (A1 75 27, .b false), (A1 75 34, .prim [A3 true]), (A1 75 39, .b true), (A1 75 43, .b false), (A1 75 48, .b false), (A1 75 8001, .loop [1, 4, 61, 62, 63] (.exit 0) (qpO root cur v m load rows ws s)), (A1 75 91, .b true), (A1 75 94, .prim [.one (.mn 2 ks)]), (A1 75 96, .call (vb false) (qpH root cur v m load rows ws))] = some ([A3 true], [], [((ws.length : Int) != (rows.length : Int)) = false, decide (cur < -1) = false, decide (cur ≥ (rows.length : Int)) = false, pVT root m rows true, (cur == -1) = true, (v != 0) = false, (cur != -1) = false, Ev CQp Ab (.code 75 false (BE Tryz.prog 75 0) (qp0 root cur v m load rows ws 0 0)) (.code (.exit 0) (qpO root cur v m load rows ws s)), (s == load) = true, kqS [.agg (Bs root cur v m load rows ws)] = some [.one (.mn 2 ks)], cfE root cur v m load rows ws ks false]) := by kernel_rfl
theorem pv7c (root cur v m load : Int) (rows ws : A8) (r : Bool) (nv nl nr nu : Int) : pV root cur v m load rows ws [(A1 75 17, .b false), (A1 75 21, .b false), (A1 75 27, .b false), (A1 75 34, .prim [A3 true]), (A1 75 39, .b false), (A1 75 48, .b true), (A1 75 55, .row (BU false r nv nl nr nu)), (A1 75 8001, .loop [1, 4, 61, 62, 63] .ret (qpR root cur v m load rows ws))] = some ([A3 false], [], [((ws.length : Int) != (rows.length : Int)) = false, decide (cur < -1) = false, decide (cur ≥ (rows.length : Int)) = false, pVT root m rows true, (cur == -1) = false, (cur != -1) = true, 0 ≤ cur ∧ rows[cur.toNat]? = some (BU false r nv nl nr nu), Ev CQp Ab (.code 75 false (BE Tryz.prog 75 0) (qp0 root cur v m load rows ws 0 0)) (.code .ret (qpR root cur v m load rows ws))]) := by kernel_rfl
theorem pv8c (root cur v m load : Int) (rows ws : A8) (r : Bool) (nv nl nr nu : Int) (s : Int) : pV root cur v m load rows ws [(A1 75 17, .b false), (A1 75 21, .b false), (A1 75 27, .b false), (A1 75 34, .prim [A3 true]), (A1 75 39, .b false), (A1 75 48, .b true), (A1 75 55, .row (BU false r nv nl nr nu)), (A1 75 8001, .loop [1, 4, 61, 62, 63] (.exit 0) (qpO root cur v m load rows ws s)), (A1 75 91, .b false)] = some ([A3 false], [], [((ws.length : Int) != (rows.length : Int)) = false, decide (cur < -1) = false, decide (cur ≥ (rows.length : Int)) = false, pVT root m rows true, (cur == -1) = false, (cur != -1) = true, 0 ≤ cur ∧ rows[cur.toNat]? = some (BU false r nv nl nr nu), Ev CQp Ab (.code 75 false (BE Tryz.prog 75 0) (qp0 root cur v m load rows ws 0 0)) (.code (.exit 0) (qpO root cur v m load rows ws s)), (s == load) = false]) := by kernel_rfl
theorem pv9ct (root cur v m load : Int) (rows ws : A8) (r : Bool) (nv nl nr nu : Int) (s : Int) (ks : A8) : pV root cur v m load rows ws [(A1 75 17, .b false), (A1 75 21, .b false), (A1 75 27, .b false), (A1 75 34, .prim [A3 true]), (A1 75 39, .b false), (A1 75 48, .b true), (A1 75 55, .row (BU false r nv nl nr nu)), (A1 75 8001, .loop [1, 4, 61, 62, 63] (.exit 0) (qpO root cur v m load rows ws s)), (A1 75 91, .b true), (A1 75 94, .prim [.one (.mn 2 ks)]), (A1 75 96, .call (vb true) (qpH root cur v m load rows ws))] = some ([A3 false], [], [((ws.length : Int) != (rows.length : Int)) = false, decide (cur < -1) = false, decide (cur ≥ (rows.length : Int)) = false, pVT root m rows true, (cur == -1) = false, (cur != -1) = true, 0 ≤ cur ∧ rows[cur.toNat]? = some (BU false r nv nl nr nu), Ev CQp Ab (.code 75 false (BE Tryz.prog 75 0) (qp0 root cur v m load rows ws 0 0)) (.code (.exit 0) (qpO root cur v m load rows ws s)), (s == load) = true, kqS [.agg (Bs root cur v m load rows ws)] = some [.one (.mn 2 ks)], cfE root cur v m load rows ws ks true]) := by kernel_rfl
theorem pv9cf (root cur v m load : Int) (rows ws : A8) (r : Bool) (nv nl nr nu : Int) (s : Int) (ks : A8) : pV root cur v m load rows ws [(A1 75 17, .b false), (A1 75 21, .b false), (A1 75 27, .b false), (A1 75 34, .prim [A3 true]), (A1 75 39, .b false), (A1 75 48, .b true), (A1 75 55, .row (BU false r nv nl nr nu)), (A1 75 8001, .loop [1, 4, 61, 62, 63] (.exit 0) (qpO root cur v m load rows ws s)), (A1 75 91, .b true), (A1 75 94, .prim [.one (.mn 2 ks)]), (A1 75 96, .call (vb false) (qpH root cur v m load rows ws))] = some ([A3 true], [], [((ws.length : Int) != (rows.length : Int)) = false, decide (cur < -1) = false, decide (cur ≥ (rows.length : Int)) = false, pVT root m rows true, (cur == -1) = false, (cur != -1) = true, 0 ≤ cur ∧ rows[cur.toNat]? = some (BU false r nv nl nr nu), Ev CQp Ab (.code 75 false (BE Tryz.prog 75 0) (qp0 root cur v m load rows ws 0 0)) (.code (.exit 0) (qpO root cur v m load rows ws s)), (s == load) = true, kqS [.agg (Bs root cur v m load rows ws)] = some [.one (.mn 2 ks)], cfE root cur v m load rows ws ks false]) := by kernel_rfl
theorem fc_ev (q : Que) (k : Ky) : fcE q.root q.cur q.v q.m q.load (A9 q.ns) (A6 q.ws) k.1 k.2 (farK q.m k) := by
 have t3 : ∀ {p : Prop} {l : List Prop}, p → AI l → AI (p :: l) := fun h hl => A0 h hl
 have ob : ∀ {l : List Prop}, AI l → AI (fcO q.m k.1 (BW k.1 q.m) l) := fun hl => AQ (AQ (A0 (lagS_at _ _) A2) hl) (A0 rfl (A0 rfl (A0 rfl A2)))
 unfold farK
 cases h1 : decide (BW k.1 q.m < -1125899906842624) with
 | true =>
  have h1' := of_decide_eq_true h1
  have n : (BW k.1 q.m != -1125899906842624) = true := by
   have : ¬ BW k.1 q.m = -1125899906842624 := by omega
   simpa using this
  exact symCD_ev (fc_1 q.root q.cur q.v q.m q.load k.1 k.2 _ _ _) (ob (A0 h1 (A0 n A2)))
 | false =>
  cases h2 : decide (BW k.1 q.m > 1125899906842624) with
  | true =>
   have h2' := of_decide_eq_true h2
   have n : (BW k.1 q.m != 1125899906842624) = true := by
    have : ¬ BW k.1 q.m = 1125899906842624 := by omega
    simpa using this
   exact symCD_ev (fc_2 q.root q.cur q.v q.m q.load k.1 k.2 _ _ _) (ob (A0 h1 (A0 h2 (A0 n A2))))
  | false => exact symCD_ev (fc_3 q.root q.cur q.v q.m q.load k.1 k.2 _ _ _) (ob (A0 h1 (A0 h2 (A0 (by simp) A2))))
theorem if_loop (q : Que) (l : List Ky) (hl : l.length < 2 ^ 30) : ∀ (r : List Ky) (i : Nat), l.drop i = r → i + r.length = l.length →
  (r.any (farK q.m) = true → ∃ j : Nat, Ev CQp Ab (.code 189 false (BE Tryz.prog 189 0) (ifHd q.root q.cur q.v q.m q.load (A9 q.ns) (A6 q.ws) (Ai l) i)) (.code .ret (ifRet q.root q.cur q.v q.m q.load (A9 q.ns) (A6 q.ws) j))) ∧
  (r.any (farK q.m) = false → Ev CQp Ab (.code 189 false (BE Tryz.prog 189 0) (ifHd q.root q.cur q.v q.m q.load (A9 q.ns) (A6 q.ws) (Ai l) i)) (.code (.exit 0) (ifOut q.root q.cur q.v q.m q.load (A9 q.ns) (A6 q.ws))))
 | [], i, hd, hi => ⟨fun h => (by cases h), fun _ => Ac (if_exit _ _ _ _ _ i _ _ _) (A0 (by rw [AU]; exact dge (by simp at hi; omega)) A2)⟩
 | y :: r, i, hd, hi => by
  simp only [List.length_cons] at hi
  have hil : i < l.length := by omega
  have hy : l[i] = y := by
   rw [List.drop_eq_getElem_cons hil] at hd
   exact (List.cons.inj hd).1
  have hd' : l.drop (i + 1) = r := by
   rw [List.drop_eq_getElem_cons hil] at hd
   exact (List.cons.inj hd).2
  obtain ⟨n1, n2⟩ := if_loop q l hl r (i + 1) hd' (by omega)
  have hb : decide ((i : Int) < ((Ai l).length : Int)) = true := by rw [AU]; exact dlt hil
  have hr : 0 ≤ (i : Int) ∧ (Ai l)[((i : Int)).toNat]? = some (kD y) := ⟨by omega, by simp [Ai, List.getElem?_eq_getElem hil, hy]⟩
  have hf := fc_ev q y
  rw [List.any_cons]
  cases hz : farK q.m y with
  | true =>
   rw [hz] at hf
   rw [Bool.true_or]
   exact ⟨fun _ => ⟨i, Ac (if_hit _ _ _ _ _ i _ _ _ _ _) (A0 hb (A0 hr (A0 hf A2)))⟩, fun h => (by cases h)⟩
  | false =>
   rw [hz] at hf
   rw [Bool.false_or]
   refine ⟨fun h => ?_, fun h => ?_⟩
   ·obtain ⟨j, he⟩ := n1 h
    exact ⟨j, Aa _ _ _ _ _ _ (if_step _ _ _ _ _ i _ _ ((i + 1 : Nat) : Int) _ _ _ _ _) (A0 hb (A0 hr (A0 hf (A0 (Ag (by omega)) (A0 he A2)))))⟩
   ·exact Aa _ _ _ _ _ _ (if_step _ _ _ _ _ i _ _ ((i + 1 : Nat) : Int) _ _ _ _ _) (A0 hb (A0 hr (A0 hf (A0 (Ag (by omega)) (A0 (n2 h) A2)))))
theorem cf_ev (q : Que) (l : List Ky) (hl : l.length < 2 ^ 30) : cfE q.root q.cur q.v q.m q.load (A9 q.ns) (A6 q.ws) (Ai l) (l.any (farK q.m)) := by
 obtain ⟨n1, n2⟩ := if_loop q l hl l 0 rfl (by omega)
 cases h : l.any (farK q.m) with
 | true =>
  obtain ⟨j, he⟩ := n1 h
  exact Aa _ _ _ _ _ _ (cf_t q.root q.cur q.v q.m q.load j _ _ _) (A0 he (A0 (decide_eq_true (by omega)) A2))
 | false => exact Aa _ _ _ _ _ _ (cf_f q.root q.cur q.v q.m q.load _ _ _) (A0 (n2 h) A2)
def pst0 (q : Que) (s i : Int) : St := qp0 q.root q.cur q.v q.m q.load (A9 q.ns) (A6 q.ws) s i
def pstO (q : Que) (s : Int) : St := qpO q.root q.cur q.v q.m q.load (A9 q.ns) (A6 q.ws) s
def pstR (q : Que) : St := qpR q.root q.cur q.v q.m q.load (A9 q.ns) (A6 q.ws)
theorem p0_loop (q : Que) (ok : q.Ok) (h64 : q.ns.length ≤ 64) (hw : q.ws.length = q.ns.length) : ∀ (d i : Nat), i + d = q.ns.length → (∀ j, j < i → 0 ≤ wAt q j ∧ wAt q j ≤ 88761) →
  (q.wsFrom i = true → Ev CQp Ab (.code 75 false (BE Tryz.prog 75 0) (pst0 q (q.sumTo i) i)) (.code (.exit 0) (pstO q (q.sumTo q.ns.length)))) ∧ (q.wsFrom i = false → Ev CQp Ab (.code 75 false (BE Tryz.prog 75 0) (pst0 q (q.sumTo i) i)) (.code .ret (pstR q)))
 | 0, i, h, hb => by
  have hd : (List.range q.ns.length).drop i = [] := List.drop_eq_nil_of_le (by simp; omega)
  have h1 : q.wsFrom i = true := by unfold Que.wsFrom; rw [hd]; rfl
  have hi : i = q.ns.length := by omega
  refine ⟨fun _ => ?_, fun h => (by rw [h1] at h; cases h)⟩
  subst hi
  exact Ac (p0_exit _ _ _ _ _ _ _ _ _) (A0 (by rw [Ax]; exact dge (by omega)) A2)
 | d + 1, i, h, hb => by
  have hi : i < q.ns.length := by omega
  have hwi : i < q.ws.length := by omega
  have hwa : wAt q i = q.ws[i] := by simp [wAt, hwi]
  have b0 : decide ((i : Int) < ((A6 q.ws).length : Int)) = true := by rw [Ax]; exact dlt hwi
  have hr : 0 ≤ (i : Int) ∧ (A6 q.ws)[((i : Int)).toNat]? = some [di (wAt q i)] := ⟨by omega, by rw [hwa]; exact B2 (List.getElem?_eq_getElem hwi)⟩
  have hh := heS_at ok hi
  obtain ⟨s1, s2⟩ := sumTo_bound i hb
  rw [wsFrom_step hi]
  have nxt : wOK (q.here i) (wAt q i) = true → (0 ≤ wAt q i ∧ wAt q i ≤ 88761) ∧ (q.wsFrom (i + 1) = true → Ev CQp Ab (.code 75 false (BE Tryz.prog 75 0) (pst0 q (q.sumTo (i + 1)) ((i + 1 : Nat) : Int))) (.code (.exit 0) (pstO q (q.sumTo q.ns.length)))) ∧ (q.wsFrom (i + 1) = false → Ev CQp Ab (.code 75 false (BE Tryz.prog 75 0) (pst0 q (q.sumTo (i + 1)) ((i + 1 : Nat) : Int))) (.code .ret (pstR q))) := fun hok => by
   have hbw := wOK_bound hok
   refine ⟨hbw, p0_loop q ok h64 hw d (i + 1) (by omega) (fun j hj => ?_)⟩
   by_cases e : j = i
   ·subst e; exact hbw
   ·exact hb j (by omega)
  generalize hwg : wAt q i = w at hr nxt ⊢
  have hsum : q.sumTo (i + 1) = q.sumTo i + w := by simp only [Que.sumTo, hwg]
  have ob : ∀ {z y : Bool} {lp : List Prop}, q.here i = z → decide (1 ≤ w ∧ w ≤ 88761) = y → AI lp → AI (p0O q.root q.cur q.v q.m q.load i w (A9 q.ns) (A6 q.ws) z y lp) := fun hz hy hL => A0 b0 (A0 hr (A0 (by rw [← hz]; exact hh) (A0 (by rw [← hy]; rfl) hL)))
  have go : ∀ (x : X) (st : St), wOK (q.here i) w = true → Ev CQp Ab (.code 75 false (BE Tryz.prog 75 0) (pst0 q (q.sumTo (i + 1)) ((i + 1 : Nat) : Int))) (.code x st) → Ev CQp Ab (.code 75 false (BE Tryz.prog 75 0) (pst0 q (q.sumTo i) i)) (.code x st) := fun x st hok he => by
   have hbw := (nxt hok).1
   have wr1 : IntKind.wrap .i64 (q.sumTo i + w) = q.sumTo (i + 1) := by rw [hsum]; exact Ch (by omega) (by omega)
   cases hz : q.here i with
   | true =>
    rw [hz] at hok
    simp only [wOK, if_true] at hok
    exact Aa _ _ _ _ _ _ (p0_t _ _ _ _ _ (q.sumTo i) i w (q.sumTo (i + 1)) ((i + 1 : Nat) : Int) _ _ _ _) (ob hz hok (A0 wr1 (A0 (Ag (by omega)) (A0 he A2))))
   | false =>
    rw [hz] at hok
    have hw0 : w = 0 := by simpa [wOK] using hok
    have hd : decide (1 ≤ w ∧ w ≤ 88761) = false := decide_eq_false (by omega)
    exact Aa _ _ _ _ _ _ (p0_f _ _ _ _ _ (q.sumTo i) i w (q.sumTo (i + 1)) ((i + 1 : Nat) : Int) _ _ _ _) (ob hz hd (A0 (by rw [hw0]; rfl) (A0 wr1 (A0 (Ag (by omega)) (A0 he A2)))))
  cases hok : wOK (q.here i) w with
  | true =>
   rw [Bool.true_and]
   obtain ⟨-, n1, n2⟩ := nxt hok
   exact ⟨fun h => go _ _ hok (n1 h), fun h => go _ _ hok (n2 h)⟩
  | false =>
   rw [Bool.false_and]
   refine ⟨fun h => (by cases h), fun _ => ?_⟩
   cases hz : q.here i with
   | true =>
    rw [hz] at hok
    simp only [wOK, if_true] at hok
    exact Ac (p0_1 _ _ _ _ _ (q.sumTo i) i w _ _) (ob hz hok A2)
   | false =>
    rw [hz] at hok
    have hw0 : (w != 0) = true := by simpa [wOK, bne] using hok
    cases hd : decide (1 ≤ w ∧ w ≤ 88761) with
    | true => exact Ac (p0_2 _ _ _ _ _ (q.sumTo i) i w _ _) (ob hz hd A2)
    | false => exact Ac (p0_3 _ _ _ _ _ (q.sumTo i) i w _ _) (ob hz hd (A0 hw0 A2))
theorem treeR_ord {root : Int} {ns : List Nod} {m : Nat} (h : treeR root ns m = true) : (ordO root ns).isSome = true := by
 unfold treeR at h
 split at h
 ·cases h
 ·rename_i l ho; rw [ho]; rfl
theorem queP_sat : AJ C0 75 queS := AJ.ctx (C := CQp) rfl rfl (Af (O := Ab) hPQp (fun _ _ h => h.elim) Bm fun ps rs hs => by
 unfold queS at hs
 split at hs
 ·rename_i cs
  unfold queV at hs
  split at hs
  ·rename_i q hq
   simp only [Option.some.injEq] at hs
   subst hs
   obtain ⟨rfl, ok⟩ := queR_eq hq
   have ht := treS30_at (root := q.root) ok.ns ok.m ok.n
   unfold Que.right
   by_cases h2 : q.ws.length = q.ns.length
   ·have b2 : (((A6 q.ws).length : Int) != ((A9 q.ns).length : Int)) = false := by rw [Ax, Ay, h2]; simp
    rw [decide_eq_true h2, Bool.true_and]
    by_cases h3 : -1 ≤ q.cur
    ·have b3 : decide (q.cur < -1) = false := decide_eq_false (by omega)
     rw [decide_eq_true h3, Bool.true_and]
     by_cases h4 : q.cur < q.ns.length
     ·have b4 : decide (q.cur ≥ ((A9 q.ns).length : Int)) = false := decide_eq_false (by rw [Ay]; omega)
      rw [decide_eq_true h4, Bool.true_and]
      cases h1 : treeR q.root q.ns q.m with
      | false =>
       rw [h1] at ht
       exact A4 (pv4 q.root q.cur q.v q.m q.load _ _) (A0 b2 (A0 b3 (A0 b4 (A0 ht A2))))
      | true =>
       rw [h1] at ht
       have h64 := treeR_len h1
       rw [Bool.true_and]
       have hloop := p0_loop q ok h64 h2 q.ns.length 0 (by omega) (fun j hj => by omega)
       have hke := kqS_at ok (treeR_ord h1) h3
       have hperm := srtP_perm q.m q.keys
       have hall : (srtP q.m q.keys).any (farK q.m) = !q.keys.all (fun k => !farK q.m k) := by
        rw [hperm.any_eq]
        simp only [List.all_eq_not_any_not, Bool.not_not]
       have hl65 := keys_len q
       have hcf := cf_ev q (srtP q.m q.keys) (by rw [hperm.length_eq]; omega)
       rw [hall] at hcf
       have hbs : ∀ {z : Bool}, decide (q.sumTo q.ns.length = q.load) = z → (q.sumTo q.ns.length == q.load) = z := fun h => by rw [beqd]; exact h
       by_cases h5 : q.cur = -1
       ·have b5 : (q.cur == -1) = true := by simp [h5]
        have b6 : decide (0 ≤ q.cur) = false := decide_eq_false (by omega)
        have b6' : (q.cur != -1) = false := by simp [h5]
        rw [decide_eq_true h5, Bool.true_and, b6, Bool.false_and, Bool.not_false, Bool.true_and]
        by_cases h7 : q.v = 0
        ·have b7 : ((q.v : Int) != 0) = false := by simp [h7]
         have b7' : (q.v != 0) = false := by simp [h7]
         rw [b7', Bool.not_false, Bool.true_and]
         have ob : ∀ {lp : List Prop}, AI lp → AI (((((A6 q.ws).length : Int) != ((A9 q.ns).length : Int)) = false) :: (decide (q.cur < -1) = false) :: (decide (q.cur ≥ ((A9 q.ns).length : Int)) = false) :: pVT q.root q.m (A9 q.ns) true :: ((q.cur == -1) = true) :: (((q.v : Int) != 0) = false) :: ((q.cur != -1) = false) :: lp) := fun h => A0 b2 (A0 b3 (A0 b4 (A0 ht (A0 b5 (A0 b7 (A0 b6' h))))))
         cases h8 : q.wsFrom 0 with
         | false => exact A4 (pv7n q.root q.cur q.v q.m q.load _ _) (ob (A0 (hloop.2 h8) A2))
         | true =>
          rw [Bool.true_and]
          cases h10 : decide (q.sumTo q.ns.length = q.load) with
          | false =>
           rw [Bool.and_false]
           exact A4 (pv8n q.root q.cur q.v q.m q.load _ _ _) (ob (A0 (hloop.1 h8) (A0 (hbs h10) A2)))
          | true =>
           rw [Bool.and_true]
           cases h9 : q.keys.all (fun k => !farK q.m k) with
           | false =>
            rw [h9] at hcf
            exact A4 (pv9nt q.root q.cur q.v q.m q.load _ _ _ _) (ob (A0 (hloop.1 h8) (A0 (hbs h10) (A0 hke (A0 hcf A2)))))
           | true =>
            rw [h9] at hcf
            exact A4 (pv9nf q.root q.cur q.v q.m q.load _ _ _ _) (ob (A0 (hloop.1 h8) (A0 (hbs h10) (A0 hke (A0 hcf A2)))))
        ·have b7 : ((q.v : Int) != 0) = true := by
          have : ¬ (q.v : Int) = 0 := by omega
          simpa using this
         have b7' : (q.v != 0) = true := by simpa using h7
         rw [b7', Bool.not_true, Bool.false_and]
         exact A4 (pv5 q.root q.cur q.v q.m q.load _ _) (A0 b2 (A0 b3 (A0 b4 (A0 ht (A0 b5 (A0 b7 A2))))))
       ·have b5 : (q.cur == -1) = false := by simpa using h5
        have h0 : 0 ≤ q.cur := by omega
        have b6' : (q.cur != -1) = true := by simpa using h5
        rw [decide_eq_false h5, Bool.false_and, Bool.not_false, Bool.true_and, decide_eq_true h0, Bool.true_and]
        obtain ⟨c, hc⟩ := Int.eq_ofNat_of_zero_le h0
        have hcl : c < q.ns.length := by omega
        have hin : Bw q.ns q.cur.toNat = q.ns[c].inn := by rw [hc, Int.toNat_natCast]; simp only [Bw, List.getElem?_eq_getElem hcl]
        have hrow : 0 ≤ q.cur ∧ (A9 q.ns)[q.cur.toNat]? = some (q.ns[c]).cs := ⟨h0, by rw [hc]; exact AS (List.getElem?_eq_getElem hcl)⟩
        rw [hin]
        generalize q.ns[c] = nd at hrow ⊢
        obtain ⟨bb, r, nv, nl, nr, nu⟩ := nd
        cases bb with
        | true => exact A4 (pv6 q.root q.cur q.v q.m q.load _ _ r nv nl nr nu) (A0 b2 (A0 b3 (A0 b4 (A0 ht (A0 b5 (A0 b6' (A0 hrow A2)))))))
        | false =>
         rw [Bool.not_false, Bool.true_and]
         have ob : ∀ {lp : List Prop}, AI lp → AI (((((A6 q.ws).length : Int) != ((A9 q.ns).length : Int)) = false) :: (decide (q.cur < -1) = false) :: (decide (q.cur ≥ ((A9 q.ns).length : Int)) = false) :: pVT q.root q.m (A9 q.ns) true :: ((q.cur == -1) = false) :: ((q.cur != -1) = true) :: (0 ≤ q.cur ∧ (A9 q.ns)[q.cur.toNat]? = some (BU false r nv nl nr nu)) :: lp) := fun h => A0 b2 (A0 b3 (A0 b4 (A0 ht (A0 b5 (A0 b6' (A0 hrow h))))))
         cases h8 : q.wsFrom 0 with
         | false => exact A4 (pv7c q.root q.cur q.v q.m q.load _ _ r nv nl nr nu) (ob (A0 (hloop.2 h8) A2))
         | true =>
          rw [Bool.true_and]
          cases h10 : decide (q.sumTo q.ns.length = q.load) with
          | false =>
           rw [Bool.and_false]
           exact A4 (pv8c q.root q.cur q.v q.m q.load _ _ r nv nl nr nu _) (ob (A0 (hloop.1 h8) (A0 (hbs h10) A2)))
          | true =>
           rw [Bool.and_true]
           cases h9 : q.keys.all (fun k => !farK q.m k) with
           | false =>
            rw [h9] at hcf
            exact A4 (pv9ct q.root q.cur q.v q.m q.load _ _ r nv nl nr nu _ _) (ob (A0 (hloop.1 h8) (A0 (hbs h10) (A0 hke (A0 hcf A2)))))
           | true =>
            rw [h9] at hcf
            exact A4 (pv9cf q.root q.cur q.v q.m q.load _ _ r nv nl nr nu _ _) (ob (A0 (hloop.1 h8) (A0 (hbs h10) (A0 hke (A0 hcf A2)))))
     ·have b4 : decide (q.cur ≥ ((A9 q.ns).length : Int)) = true := decide_eq_true (by rw [Ay]; omega)
      rw [decide_eq_false h4, Bool.false_and, Bool.and_false]
      exact A4 (pv3 q.root q.cur q.v q.m q.load _ _) (A0 b2 (A0 b3 (A0 b4 A2)))
    ·have b3 : decide (q.cur < -1) = true := decide_eq_true (by omega)
     rw [decide_eq_false h3, Bool.false_and, Bool.and_false]
     exact A4 (pv2 q.root q.cur q.v q.m q.load _ _) (A0 b2 (A0 b3 A2))
   ·have b2 : (((A6 q.ws).length : Int) != ((A9 q.ns).length : Int)) = true := by
     rw [Ax, Ay]
     have : ¬ (q.ws.length : Int) = (q.ns.length : Int) := by omega
     simpa using this
    rw [decide_eq_false h2, Bool.false_and, Bool.and_false]
    exact A4 (pv1 q.root q.cur q.v q.m q.load _ _) (A0 b2 A2)
  ·cases hs
 ·cases hs)
def wTab : List Int := [88761, 71755, 56483, 46273, 36291, 29154, 23254, 18705, 14949, 11916, 9548, 7620, 6100, 4904, 3906, 3121, 2501, 1991, 1586, 1277, 1024, 820, 655, 526, 423, 335, 272, 215, 172, 137, 110, 87, 70, 56, 45, 36, 29, 23, 18, 15]
def wgt (nice : Int) : Int := (wTab[(nice + 20).toNat]?).getD 0
def ansIs (r : SM (List PV)) (n : Int) : Bool := match r with
 | some ([.one (.v (.int .i64 a)), .one (.v (.int .i64 b))], [], []) => a == n && b == 0
 | _ => false
theorem ansIs_eq {r : SM (List PV)} {n : Int} (h : ansIs r n = true) : r = some ([A5 n, A5 0], [], []) := by
 unfold ansIs at h
 split at h
 ·rename_i a b
  simp only [Bool.and_eq_true, beq_iff_eq] at h
  obtain ⟨rfl, rfl⟩ := h
  rfl
 ·cases h
theorem wP_all : ((List.range 40).all fun k : Nat => ansIs (Cs C0 Ab 60 192 [A5 ((k : Int) - 20)] []) (wgt ((k : Int) - 20))) = true := by kernel_rfl
theorem wD_all : ((List.range 40).all fun k : Nat => ansIs (Cs C0 Ab 60 166 [A5 ((k : Int) - 20)] []) (wgt ((k : Int) - 20))) = true := by kernel_rfl
def wofS : Spec
 | [.one (.v (.int .i64 n))] => if -20 ≤ n ∧ n ≤ 19 then some [A5 (wgt n), A5 0] else none
 | _ => none
theorem wof_sat {g : FuncId} (h : ((List.range 40).all fun k : Nat => ansIs (Cs C0 Ab 60 g [A5 ((k : Int) - 20)] []) (wgt ((k : Int) - 20))) = true) : AJ C0 g wofS := Af (O := Ab) BN (fun _ _ h => h.elim) Bm fun ps rs hs => by
 unfold wofS at hs
 split at hs
 ·rename_i n
  split at hs
  ·rename_i hc
   simp only [Option.some.injEq] at hs
   subst hs
   have hk := List.all_eq_true.1 h (n + 20).toNat (List.mem_range.2 (by omega))
   have e : (((n + 20).toNat : Nat) : Int) - 20 = n := by omega
   rw [e] at hk
   exact A4 (ansIs_eq hk) A2
  ·cases hs
 ·cases hs
theorem wofP_sat : AJ C0 192 wofS := wof_sat wP_all
theorem wofD_sat : AJ C0 166 wofS := wof_sat wD_all
def ansU (r : SM (List PV)) (n : Int) : Bool := match r with
 | some ([.one (.v (.int .u64 a))], [], []) => a == n
 | _ => false
theorem ansU_eq {r : SM (List PV)} {n : Int} (h : ansU r n = true) : r = some ([pu n], [], []) := by
 unfold ansU at h
 split at h
 ·rename_i a
  simp only [beq_iff_eq] at h
  rw [h]; rfl
 ·cases h
theorem aP_all : ((List.range 65).all fun k : Nat => ansU (Cs C0 Ab 60 140 [A5 (k : Int)] []) ((2 ^ k - 1 : Nat) : Int)) = true := by kernel_rfl
def Cu : Spec
 | [.one (.v (.int .i64 n))] => if 0 ≤ n ∧ n ≤ 64 then some [pu ((2 ^ n.toNat - 1 : Nat) : Int)] else none
 | _ => none
theorem all_sat {C : Ctx} (hP : Aw C) (hC : C.P = Tryz.prog) {N : Nat} {g : FuncId} (h : ((List.range 65).all fun k : Nat => ansU (Cs C Ab N g [A5 (k : Int)] []) ((2 ^ k - 1 : Nat) : Int)) = true) : AJ C g Cu := Af (O := Ab) hP (fun _ _ h => h.elim) (by rw [hC]; exact Bm) fun ps rs hs => by
 unfold Cu at hs
 split at hs
 ·rename_i n
  split at hs
  ·rename_i hc
   obtain ⟨k, rfl⟩ := Int.eq_ofNat_of_zero_le hc.1
   simp only [Option.some.injEq, Int.toNat_natCast] at hs
   subst hs
   have hk := List.all_eq_true.1 h k (List.mem_range.2 (by omega))
   exact A4 (ansU_eq hk) A2
  ·cases hs
 ·cases hs
theorem allP_sat : AJ C0 140 Cu := all_sat BN rfl aP_all
def withV (m c : Int) : Int := if hasI m c then m else IntKind.wrap .u64 (m + (bitN c : Nat))
def withS : Spec
 | [.one (.v (.int .u64 m)), .one (.v (.int .i64 c))] => some [pu (withV m c)]
 | _ => none
theorem wi_t (m c : Int) : Cs S2 Ab 60 150 [pu m, A5 c] [(A1 150 7, .prim [A3 true])] = some ([pu m], [], [hasSpec [pu m, A5 c] = some [A3 true]]) := by kernel_rfl
theorem wi_f (m c b r : Int) : Cs S2 Ab 60 150 [pu m, A5 c] [(A1 150 7, .prim [A3 false]), (A1 150 11, .prim [pu b]), (A1 150 12, .int r)] = some ([pu r], [], [hasSpec [pu m, A5 c] = some [A3 false], bitSpec [A5 c] = some [pu b], IntKind.wrap .u64 (m + b) = r]) := by kernel_rfl
theorem with_sat : AJ C0 150 withS := AJ.ctx (C := S2) rfl rfl (Af (O := Ab) hS2 (fun _ _ h => h.elim) Bm fun ps rs hs => by
 unfold withS at hs
 split at hs
 ·rename_i m c
  simp only [Option.some.injEq] at hs
  subst hs
  unfold withV
  cases h : hasI m c with
  | true => exact A4 (wi_t m c) (A0 (by rw [← h]; rfl) A2)
  | false => exact A4 (wi_f m c _ _) (A0 (by rw [← h]; rfl) (A0 rfl (A0 rfl A2)))
 ·cases hs)
noncomputable def CAl : Ctx := Ad C0 150 withS
theorem hPAl : Aw CAl := A7 BN (with_sat.ctx rfl rfl) (by kernel_rfl)
def alHd (n m c : Int) : St := { σ := Ap 18 [(0, vi n), (3, .d (.v (.int .u64 m))), (4, vi c)], h := {} }
def alOut (m : Int) : St := { σ := Ap 18 [(3, .d (.v (.int .u64 m)))], h := {} }
theorem al_exit (n m c : Int) : symM CAl Ab 60 80 false (BE Tryz.prog 80 0) (alHd n m c) [(A1 80 7, .b false)] [3] = some ((.exit 0, alOut m), [], [decide (c < n) = false]) := by kernel_rfl
theorem al_step (n m c m' c' : Int) (X : X) (st : St) : AY CAl Ab 60 (.code 80 false (BE Tryz.prog 80 0) (alHd n m c)) [(A1 80 7, .b true), (A1 80 10, .b true), (A1 80 16, .prim [pu m']), (A1 80 13, .int c'), (A1 80 8001, .loop [0, 3, 4] X st)] =
  some (.code X st, [], [decide (c < n) = true, decide (c < 64) = true, withS [pu m, A5 c] = some [pu m'], IntKind.wrap .i64 (c + 1) = c', Ev CAl Ab (.code 80 false (BE Tryz.prog 80 0) (alHd n m' c')) (.code X st)]) := by kernel_rfl
theorem al_call (n m : Int) : Cs CAl Ab 60 80 [A5 n] [(A1 80 8001, .loop [0, 3, 4] (.exit 0) (alOut m))] = some ([pu m], [], [Ev CAl Ab (.code 80 false (BE Tryz.prog 80 0) (alHd n 0 0)) (.code (.exit 0) (alOut m))]) := by kernel_rfl
theorem with_all : ((List.range 64).all fun i : Nat => withV ((2 ^ i - 1 : Nat) : Int) (i : Int) == ((2 ^ (i + 1) - 1 : Nat) : Int)) = true := by kernel_rfl
theorem al_loop (n : Nat) (hn : n ≤ 64) : ∀ (d i : Nat), i + d = n → Ev CAl Ab (.code 80 false (BE Tryz.prog 80 0) (alHd n ((2 ^ i - 1 : Nat) : Int) i)) (.code (.exit 0) (alOut ((2 ^ n - 1 : Nat) : Int)))
 | 0, i, h => by
  have : i = n := by omega
  subst this
  exact Ac (al_exit _ _ _) (A0 (dge (by omega)) A2)
 | d + 1, i, h => by
  have hw := List.all_eq_true.1 with_all i (List.mem_range.2 (by omega))
  have hw' : withV ((2 ^ i - 1 : Nat) : Int) (i : Int) = ((2 ^ (i + 1) - 1 : Nat) : Int) := by simpa using hw
  have ih := al_loop n hn d (i + 1) (by omega)
  exact Aa _ _ _ _ _ _ (al_step n _ i ((2 ^ (i + 1) - 1 : Nat) : Int) ((i + 1 : Nat) : Int) _ _) (A0 (dlt (by omega)) (A0 (decide_eq_true (by omega)) (A0 (by rw [← hw']; rfl) (A0 (Ag (by omega)) (A0 ih A2)))))
theorem allD_sat : AJ C0 80 Cu := AJ.ctx (C := CAl) rfl rfl (Af (O := Ab) hPAl (fun _ _ h => h.elim) Bm fun ps rs hs => by
 unfold Cu at hs
 split at hs
 ·rename_i n
  split at hs
  ·rename_i hc
   obtain ⟨k, rfl⟩ := Int.eq_ofNat_of_zero_le hc.1
   simp only [Option.some.injEq, Int.toNat_natCast] at hs
   subst hs
   exact A4 (al_call k _) (A0 (al_loop k (by omega) k 0 (by omega)) A2)
  ·cases hs
 ·cases hs)
theorem still_shr {P : Program} {t : TypeId} {a b : Int} (hb : 0 ≤ b) : Ar P (binOp .shr t (.int .u64 a) (.int .i64 b)) = some (.int .u64 (Int.fdiv a (2 ^ min b.toNat 64))) := by
 simp [binOp]
 unfold Op.shift
 rw [if_neg (by omega)]
 rfl
def hasN (m c : Nat) : Bool := m / 2 ^ c % 2 == 1
theorem hm_in (m c s r : Int) (z : Bool) : Cs C0 Ab 60 142 [pu m, A5 c] [(A1 191 4, .b false), (A1 191 7, .b false), (A1 142 11, .ari .u64 s), (A1 142 12, .int r), (A1 142 13, .b z)] =
  some ([A3 z], [], [decide (c < 0) = false, decide (c ≥ 64) = false, Ar Tryz.prog (binOp .shr 39 (.int .u64 m) (.int .i64 c)) = some (.int .u64 s), IntKind.wrap .u64 (((BitVec.ofInt 64 s &&& BitVec.ofInt 64 1).toNat : Nat) : Int) = r, (r == 1) = z]) := by kernel_rfl
def hsS : Spec
 | [.one (.v (.int .u64 m)), .one (.v (.int .i64 c))] => if (0 ≤ m ∧ m < 2 ^ 64) ∧ (0 ≤ c ∧ c < 64) then some [A3 (hasN m.toNat c.toNat)] else none
 | _ => none
theorem fdiv_pow (m c : Nat) (hc : c < 64) : Int.fdiv (m : Int) (2 ^ min ((c : Int)).toNat 64) = ((m / 2 ^ c : Nat) : Int) := by
 rw [Int.toNat_natCast, Nat.min_eq_left (by omega)]
 have : (2 : Int) ^ c = ((2 ^ c : Nat) : Int) := by simp
 rw [this]
 exact (Int.ofNat_fdiv _ _).symm
theorem hasP_sat : AJ C0 142 hsS := Af (O := Ab) BN (fun _ _ h => h.elim) Bm fun ps rs hs => by
 unfold hsS at hs
 split at hs
 ·rename_i m c
  split at hs
  ·rename_i hc
   obtain ⟨⟨a1, a2⟩, a3, a4⟩ := hc
   obtain ⟨mn, rfl⟩ := Int.eq_ofNat_of_zero_le a1
   obtain ⟨cn, rfl⟩ := Int.eq_ofNat_of_zero_le a3
   have hm : mn < 2 ^ 64 := by exact_mod_cast a2
   have hcn : cn < 64 := by omega
   simp only [Option.some.injEq, Int.toNat_natCast] at hs
   subst hs
   have hs1 := still_shr (P := Tryz.prog) (t := 39) (a := (mn : Int)) (b := (cn : Int)) (by omega)
   rw [fdiv_pow mn cn hcn] at hs1
   have hlt : mn / 2 ^ cn < 2 ^ 64 := Nat.lt_of_le_of_lt (Nat.div_le_self _ _) hm
   have hr : IntKind.wrap .u64 (((BitVec.ofInt 64 ((mn / 2 ^ cn : Nat) : Int) &&& BitVec.ofInt 64 1).toNat : Nat) : Int) = ((mn / 2 ^ cn % 2 : Nat) : Int) := by
    have h3 : (BitVec.ofInt 64 1).toNat = 2 ^ 1 - 1 := rfl
    rw [BitVec.toNat_and, ofInt_nat hlt, h3, Nat.and_two_pow_sub_one_eq_mod]
    exact B1 (by omega) (by omega)
   refine A4 (hm_in mn cn _ _ _) (A0 (decide_eq_false (by omega)) (A0 (decide_eq_false (by omega)) (A0 hs1 (A0 hr (A0 ?_ A2)))))
   unfold hasN
   generalize mn / 2 ^ cn % 2 = k
   by_cases h : k = 1
   ·subst h; rfl
   ·have h1 : ¬ (k : Int) = 1 := by omega
    rw [beq_eq_false_iff_ne.2 h, beq_eq_false_iff_ne.2 h1]
  ·cases hs
 ·cases hs
theorem hasI_eq {m c : Nat} (hm : m < 2 ^ 64) (hc : c < 64) : hasI m c = hasN m c := by
 have hb : bitN (c : Int) = 2 ^ c := by
  unfold bitN
  rw [if_pos ⟨by omega, by omega⟩, Int.toNat_natCast]
 have hpos : 0 < 2 ^ c := Nat.two_pow_pos c
 unfold hasI hasN
 rw [hb]
 have h0 : (((2 ^ c : Nat) : Int) != 0) = true := by
  have : ¬ ((2 ^ c : Nat) : Int) = 0 := by omega
  simpa using this
 have h1 : ((m : Int)).tdiv ((2 ^ c : Nat) : Int) = ((m / 2 ^ c : Nat) : Int) := (Int.ofNat_tdiv _ _).symm
 have hlt : m / 2 ^ c < 2 ^ 64 := Nat.lt_of_le_of_lt (Nat.div_le_self _ _) hm
 rw [h0, Bool.true_and, h1]
 generalize m / 2 ^ c = k at hlt ⊢
 rw [B1 (by omega) (by omega)]
 have h2 : ((k : Int)).tmod 2 = ((k % 2 : Nat) : Int) := (Int.ofNat_tmod _ _).symm
 rw [h2]
 generalize k % 2 = j
 by_cases h : j = 1
 ·subst h; rfl
 ·have h1 : ¬ (j : Int) = 1 := by omega
  rw [beq_eq_false_iff_ne.2 h, beq_eq_false_iff_ne.2 h1]
theorem hasD_sat : AJ C0 19 hsS := fun ps rs hs => by
 unfold hsS at hs
 split at hs
 ·rename_i m c
  split at hs
  ·rename_i hc
   obtain ⟨⟨a1, a2⟩, a3, a4⟩ := hc
   obtain ⟨mn, rfl⟩ := Int.eq_ofNat_of_zero_le a1
   obtain ⟨cn, rfl⟩ := Int.eq_ofNat_of_zero_le a3
   simp only [Option.some.injEq, Int.toNat_natCast] at hs
   subst hs
   refine has_sat _ _ ?_
   rw [← hasI_eq (by exact_mod_cast a2) (by omega)]
   rfl
  ·cases hs
 ·cases hs
abbrev Hnd := Int × Int
def hD (h : Hnd) : List DV := [di h.1, di h.2]
def Aj (l : List Hnd) : A8 := l.map hD
def hndR : List DV → Option Hnd
 | [.v (.int .i64 s), .v (.int .i64 g)] => some (s, g)
 | _ => none
theorem hndR_eq {r : List DV} {h : Hnd} (e : hndR r = some h) : r = hD h := by
 unfold hndR at e
 split at e
 ·simp only [Option.some.injEq] at e; subst e; rfl
 ·cases e
theorem hrows_of {rows : A8} {l : List Hnd} (h : Ae hndR rows = some l) : rows = Aj l := by
 induction rows generalizing l with
 | nil => simp only [Ae, Option.some.injEq] at h; subst h; rfl
 | cons r rows ih =>
  simp only [Ae] at h
  cases hx : hndR r with
  | none => simp [hx] at h
  | some x =>
   cases hy : Ae hndR rows with
   | none => simp [hx, hy] at h
   | some y =>
    simp only [hx, hy, Option.some.injEq] at h
    subst h
    rw [ih hy, hndR_eq hx]; rfl
theorem hndR_hrows : ∀ l : List Hnd, Ae hndR (Aj l) = some l
 | [] => rfl
 | a :: l => by
  have h : Ae hndR (l.map hD) = some l := hndR_hrows l
  have e : hndR (hD a) = some a := rfl
  simp only [Aj, List.map_cons, Ae, h, e]
theorem AW (l : List Hnd) : (Aj l).length = l.length := by simp [Aj]
theorem hrows_at {l : List Hnd} {i : Nat} {x : Hnd} (h : l[i]? = some x) : (Aj l)[((i : Nat) : Int).toNat]? = some (hD x) := by simp [Aj, h]
def hndM (d : DV) : Option (List Hnd) := match mnR 2 d with
 | some rows => Ae hndR rows
 | none => none
theorem hndM_eq {d : DV} {l : List Hnd} (h : hndM d = some l) : DW d (.mn 2 (Aj l)) := by
 unfold hndM at h
 split at h
 ·rename_i rows hr
  have := hrows_of h
  subst this
  exact mnR_dw hr
 ·cases h
theorem hndM_mn (l : List Hnd) : hndM (.mn 2 (Aj l)) = some l := by simp only [hndM, mnR_mn]; exact hndR_hrows l
theorem hndM_sl (f : Bool) (l : List Hnd) : hndM (.sl 2 f (Aj l)) = some l := by simp only [hndM, mnR_sl]; exact hndR_hrows l
def vHnd (h : Hnd) : Value := .agg #[.int .i64 h.1, .int .i64 h.2]
theorem hnd_fields : fieldsOf Tryz.prog 78 = [(3, 0), (3, 1)] := by kernel_rfl
theorem hnd_p0 (a b : Int) : Ar Tryz.prog (part 3 #[.int .i64 a, .int .i64 b] 0) = some (.int .i64 a) := by kernel_rfl
theorem hnd_p1 (a b : Int) : Ar Tryz.prog (part 3 #[.int .i64 a, .int .i64 b] 1) = some (.int .i64 b) := by kernel_rfl
theorem hnd_eq (x y : Hnd) : Ar Tryz.prog (Op.equal 78 (vHnd x) (vHnd y)) = some (x == y) := by
 show Ar Tryz.prog (Op.equalIn (9998 + 1 + 1) 78 (vHnd x) (vHnd y)) = _
 unfold vHnd
 rw [eq_struct' (by rw [hnd_fields]; rfl), hnd_fields]
 simp only [eqParts, hnd_p0, hnd_p1, eq_intK und3]
 obtain ⟨a, b⟩ := x; obtain ⟨c, d⟩ := y
 have e : (((a, b) : Hnd) == (c, d)) = ((a == c) && (b == d)) := rfl
 rw [e]
 cases (a == c) <;> cases (b == d) <;> rfl
def ctV : Option (List Hnd) → Option Hnd → Option (List PV)
 | some l, some x => if l.length < 2 ^ 30 then some [A3 (l.contains x)] else none
 | _, _ => none
def ctS : Spec
 | [.one d, .agg b] => ctV (hndM d) (hndR b)
 | _ => none
theorem ctS_at {d : DV} {l : List Hnd} {x : Hnd} (h : hndM d = some l) (hl : l.length < 2 ^ 30) : ctS [.one d, .agg (hD x)] = some [A3 (l.contains x)] := by
 show ctV (hndM d) (hndR (hD x)) = _
 rw [h]
 show (if l.length < 2 ^ 30 then some [A3 (l.contains x)] else none) = _
 rw [if_pos hl]
def hhHd (rows : A8) (s g i : Int) : St := { σ := Ap 18 [(0, .d (.mn 2 rows)), (3, .ptr (A1 37 3) 0 0), (5, vi i)], h := { objs := [(A1 37 3, 1, [.cells [.d (di s), .d (di g)] false])] } }
def hhOut (s g : Int) : St := { σ := Ap 18 [], h := { objs := [(A1 37 3, 1, [.cells [.d (di s), .d (di g)] false])] } }
def hhHit (s g : Int) : St := { σ := Ap 18 [(4, vb true)], h := { objs := [(A1 37 3, 1, [.cells [.d (di s), .d (di g)] false])] } }
theorem hh_exit (rows : A8) (s g i : Int) : symM C0 Ab 60 37 false (BE Tryz.prog 37 0) (hhHd rows s g i) [(A1 37 9, .b false)] [] = some ((.exit 0, hhOut s g), [], [decide (i < (rows.length : Int)) = false]) := by kernel_rfl
theorem hh_hit (rows : A8) (s g i a b : Int) : symM C0 Ab 60 37 false (BE Tryz.prog 37 0) (hhHd rows s g i) [(A1 37 9, .b true), (A1 37 14, .row [di a, di b]), (A1 37 17, .eqv true)] [4] = some ((.ret, hhHit s g), [], [decide (i < (rows.length : Int)) = true, 0 ≤ i ∧ rows[i.toNat]? = some [di a, di b], Ar Tryz.prog (Op.equal 78 (vHnd (a, b)) (vHnd (s, g))) = some true]) := by kernel_rfl
theorem hh_step (rows : A8) (s g i i' a b : Int) (X : X) (st : St) : AY C0 Ab 60 (.code 37 false (BE Tryz.prog 37 0) (hhHd rows s g i)) [(A1 37 9, .b true), (A1 37 14, .row [di a, di b]), (A1 37 17, .eqv false), (A1 37 11, .int i'), (A1 37 8001, .loop [0, 3, 5] X st)] =
  some (.code X st, [], [decide (i < (rows.length : Int)) = true, 0 ≤ i ∧ rows[i.toNat]? = some [di a, di b], Ar Tryz.prog (Op.equal 78 (vHnd (a, b)) (vHnd (s, g))) = some false, IntKind.wrap .i64 (i + 1) = i', Ev C0 Ab (.code 37 false (BE Tryz.prog 37 0) (hhHd rows s g i')) (.code X st)]) := by kernel_rfl
theorem hh_call (rows : A8) (s g : Int) : Cs C0 Ab 60 37 [.one (.mn 2 rows), .agg [di s, di g]] [(A1 37 8001, .loop [0, 3, 5] (.exit 0) (hhOut s g))] = some ([A3 false], [], [Ev C0 Ab (.code 37 false (BE Tryz.prog 37 0) (hhHd rows s g 0)) (.code (.exit 0) (hhOut s g))]) := by kernel_rfl
theorem hh_callT (rows : A8) (s g : Int) : Cs C0 Ab 60 37 [.one (.mn 2 rows), .agg [di s, di g]] [(A1 37 8001, .loop [0, 3, 5] .ret (hhHit s g))] = some ([A3 true], [], [Ev C0 Ab (.code 37 false (BE Tryz.prog 37 0) (hhHd rows s g 0)) (.code .ret (hhHit s g))]) := by kernel_rfl
def ixH (s g a b : Int) : H := { objs := [(A1 40 3, 1, [.cells [.d (di s), .d (di g)] false]), (A1 84 3, 1, [.cells [.d (di s), .d (di g)] false])] }
def ixHd (rows : A8) (s g i : Int) : St := { σ := Ap 19 [(0, .d (.mn 2 rows)), (3, .ptr (A1 84 3) 0 0), (7, vi rows.length), (8, vi i)], h := ixH s g 0 0 }
def ixOut (s g : Int) : St := { σ := Ap 19 [], h := ixH s g 0 0 }
def ixHit (s g i : Int) : St := { σ := Ap 19 [(4, vi i)], h := ixH s g 0 0 }
theorem ix_exit (rows : A8) (s g i : Int) : symM C0 Ab 60 84 false (BE Tryz.prog 84 0) (ixHd rows s g i) [(A1 84 9, .b false)] [] = some ((.exit 0, ixOut s g), [], [decide (i < (rows.length : Int)) = false]) := by kernel_rfl
theorem ix_hit (rows : A8) (s g i a b : Int) : symM C0 Ab 60 84 false (BE Tryz.prog 84 0) (ixHd rows s g i) [(A1 84 9, .b true), (A1 84 14, .row [di a, di b]), (A1 84 16, .eqv true)] [4] = some ((.ret, ixHit s g i), [], [decide (i < (rows.length : Int)) = true, 0 ≤ i ∧ rows[i.toNat]? = some [di a, di b], Ar Tryz.prog (Op.equal 78 (vHnd (s, g)) (vHnd (a, b))) = some true]) := by kernel_rfl
theorem ix_step (rows : A8) (s g i i' a b : Int) (X : X) (st : St) : AY C0 Ab 60 (.code 84 false (BE Tryz.prog 84 0) (ixHd rows s g i)) [(A1 84 9, .b true), (A1 84 14, .row [di a, di b]), (A1 84 16, .eqv false), (A1 84 18, .int i'), (A1 84 8001, .loop [0, 3, 7, 8] X st)] =
  some (.code X st, [], [decide (i < (rows.length : Int)) = true, 0 ≤ i ∧ rows[i.toNat]? = some [di a, di b], Ar Tryz.prog (Op.equal 78 (vHnd (s, g)) (vHnd (a, b))) = some false, IntKind.wrap .i64 (i + 1) = i', Ev C0 Ab (.code 84 false (BE Tryz.prog 84 0) (ixHd rows s g i')) (.code X st)]) := by kernel_rfl
theorem ix_call (rows : A8) (s g : Int) : Cs C0 Ab 60 40 [.one (.mn 2 rows), .agg [di s, di g]] [(A1 84 8001, .loop [0, 3, 7, 8] (.exit 0) (ixOut s g))] = some ([A3 false], [], [Ev C0 Ab (.code 84 false (BE Tryz.prog 84 0) (ixHd rows s g 0)) (.code (.exit 0) (ixOut s g))]) := by kernel_rfl
theorem ix_callT (rows : A8) (s g i : Int) : Cs C0 Ab 60 40 [.one (.mn 2 rows), .agg [di s, di g]] [(A1 84 8001, .loop [0, 3, 7, 8] .ret (ixHit s g i)), (A1 40 8, .b true)] = some ([A3 true], [], [Ev C0 Ab (.code 84 false (BE Tryz.prog 84 0) (ixHd rows s g 0)) (.code .ret (ixHit s g i)), decide (i ≥ 0) = true]) := by kernel_rfl
theorem hh_loop (x : Hnd) (l : List Hnd) (hl : l.length < 2 ^ 30) : ∀ (r : List Hnd) (i : Nat), l.drop i = r → i + r.length = l.length →
  (r.contains x = true → Ev C0 Ab (.code 37 false (BE Tryz.prog 37 0) (hhHd (Aj l) x.1 x.2 i)) (.code .ret (hhHit x.1 x.2))) ∧ (r.contains x = false → Ev C0 Ab (.code 37 false (BE Tryz.prog 37 0) (hhHd (Aj l) x.1 x.2 i)) (.code (.exit 0) (hhOut x.1 x.2)))
 | [], i, hd, hi => ⟨fun h => (by cases h), fun _ => Ac (hh_exit _ _ _ i) (A0 (by rw [AW]; exact dge (by simp at hi; omega)) A2)⟩
 | y :: r, i, hd, hi => by
  simp only [List.length_cons] at hi
  have hil : i < l.length := by omega
  have hy : l[i] = y := by
   rw [List.drop_eq_getElem_cons hil] at hd
   exact (List.cons.inj hd).1
  have hd' : l.drop (i + 1) = r := by
   rw [List.drop_eq_getElem_cons hil] at hd
   exact (List.cons.inj hd).2
  obtain ⟨n1, n2⟩ := hh_loop x l hl r (i + 1) hd' (by omega)
  have hb : decide ((i : Int) < ((Aj l).length : Int)) = true := by rw [AW]; exact dlt hil
  have hr : 0 ≤ (i : Int) ∧ (Aj l)[((i : Int)).toNat]? = some (hD y) := ⟨by omega, hrows_at (by rw [List.getElem?_eq_getElem hil, hy])⟩
  have he := hnd_eq y x
  rw [List.contains_cons]
  have hsw : (x == y) = (y == x) := Bool.eq_iff_iff.2 ⟨fun h => beq_iff_eq.2 (beq_iff_eq.1 h).symm, fun h => beq_iff_eq.2 (beq_iff_eq.1 h).symm⟩
  rw [hsw]
  cases hz : (y == x) with
  | true =>
   rw [hz] at he
   exact ⟨fun _ => Ac (hh_hit _ _ _ i _ _) (A0 hb (A0 hr (A0 he A2))), fun h => (by cases h)⟩
  | false =>
   rw [hz] at he
   rw [Bool.false_or]
   exact ⟨fun h => Aa _ _ _ _ _ _ (hh_step _ _ _ i ((i + 1 : Nat) : Int) _ _ _ _) (A0 hb (A0 hr (A0 he (A0 (Ag (by omega)) (A0 (n1 h) A2))))),
    fun h => Aa _ _ _ _ _ _ (hh_step _ _ _ i ((i + 1 : Nat) : Int) _ _ _ _) (A0 hb (A0 hr (A0 he (A0 (Ag (by omega)) (A0 (n2 h) A2)))))⟩
theorem ix_loop (x : Hnd) (l : List Hnd) (hl : l.length < 2 ^ 30) : ∀ (r : List Hnd) (i : Nat), l.drop i = r → i + r.length = l.length →
  (r.contains x = true → ∃ j : Nat, Ev C0 Ab (.code 84 false (BE Tryz.prog 84 0) (ixHd (Aj l) x.1 x.2 i)) (.code .ret (ixHit x.1 x.2 j))) ∧ (r.contains x = false → Ev C0 Ab (.code 84 false (BE Tryz.prog 84 0) (ixHd (Aj l) x.1 x.2 i)) (.code (.exit 0) (ixOut x.1 x.2)))
 | [], i, hd, hi => ⟨fun h => (by cases h), fun _ => Ac (ix_exit _ _ _ i) (A0 (by rw [AW]; exact dge (by simp at hi; omega)) A2)⟩
 | y :: r, i, hd, hi => by
  simp only [List.length_cons] at hi
  have hil : i < l.length := by omega
  have hy : l[i] = y := by
   rw [List.drop_eq_getElem_cons hil] at hd
   exact (List.cons.inj hd).1
  have hd' : l.drop (i + 1) = r := by
   rw [List.drop_eq_getElem_cons hil] at hd
   exact (List.cons.inj hd).2
  obtain ⟨n1, n2⟩ := ix_loop x l hl r (i + 1) hd' (by omega)
  have hb : decide ((i : Int) < ((Aj l).length : Int)) = true := by rw [AW]; exact dlt hil
  have hr : 0 ≤ (i : Int) ∧ (Aj l)[((i : Int)).toNat]? = some (hD y) := ⟨by omega, hrows_at (by rw [List.getElem?_eq_getElem hil, hy])⟩
  have he := hnd_eq x y
  rw [List.contains_cons]
  cases hz : (x == y) with
  | true =>
   rw [hz] at he
   exact ⟨fun _ => ⟨i, Ac (ix_hit _ _ _ i _ _) (A0 hb (A0 hr (A0 he A2)))⟩, fun h => (by cases h)⟩
  | false =>
   rw [hz] at he
   rw [Bool.false_or]
   refine ⟨fun h => ?_, fun h => ?_⟩
   ·obtain ⟨j, hj⟩ := n1 h
    exact ⟨j, Aa _ _ _ _ _ _ (ix_step _ _ _ i ((i + 1 : Nat) : Int) _ _ _ _) (A0 hb (A0 hr (A0 he (A0 (Ag (by omega)) (A0 hj A2)))))⟩
   ·exact Aa _ _ _ _ _ _ (ix_step _ _ _ i ((i + 1 : Nat) : Int) _ _ _ _) (A0 hb (A0 hr (A0 he (A0 (Ag (by omega)) (A0 (n2 h) A2)))))
theorem ct_open {ps rs : List PV} (hs : ctS ps = some rs) : ∃ (d : DV) (l : List Hnd) (x : Hnd), ps = [.one d, .agg (hD x)] ∧ rs = [A3 (l.contains x)] ∧ DW d (.mn 2 (Aj l)) ∧ l.length < 2 ^ 30 := by
 unfold ctS at hs
 split at hs
 ·rename_i d b
  unfold ctV at hs
  split at hs
  ·rename_i l x h1 h2
   split at hs
   ·rename_i hl
    simp only [Option.some.injEq] at hs
    exact ⟨d, l, x, by rw [hndR_eq h2], hs.symm, hndM_eq h1, hl⟩
   ·cases hs
  ·cases hs
 ·cases hs
theorem ctD_sat : AJ C0 37 ctS := Bh (O := Ab) BN (fun _ _ h => h.elim) Bm fun ps rs hs => by
 obtain ⟨d, l, x, rfl, rfl, hd, hl⟩ := ct_open hs
 refine ⟨[.one (.mn 2 (Aj l)), .agg (hD x)], _, .cons (.one hd) (.cons (.same _) .nil), WL.same _, ?_⟩
 obtain ⟨n1, n2⟩ := hh_loop x l hl l 0 rfl (by omega)
 cases h : l.contains x with
 | true => exact A4 (hh_callT _ _ _) (A0 (n1 h) A2)
 | false => exact A4 (hh_call _ _ _) (A0 (n2 h) A2)
theorem ctP_sat : AJ C0 40 ctS := Bh (O := Ab) BN (fun _ _ h => h.elim) Bm fun ps rs hs => by
 obtain ⟨d, l, x, rfl, rfl, hd, hl⟩ := ct_open hs
 refine ⟨[.one (.mn 2 (Aj l)), .agg (hD x)], _, .cons (.one hd) (.cons (.same _) .nil), WL.same _, ?_⟩
 obtain ⟨n1, n2⟩ := ix_loop x l hl l 0 rfl (by omega)
 cases h : l.contains x with
 | true =>
  obtain ⟨j, hj⟩ := n1 h
  exact A4 (ix_callT _ _ _ j) (A0 hj (A0 (decide_eq_true (by omega)) A2))
 | false => exact A4 (ix_call _ _ _) (A0 (n2 h) A2)
def miHd (rows : A8) (m i : Int) : St := { σ := Ap 25 [(0, .d (.mn 1 rows)), (3, vi m), (4, vi i)], h := {} }
def miOut (m : Int) : St := { σ := Ap 25 [(3, vi m)], h := {} }
theorem mi_exit (rows : A8) (m i : Int) : symM C0 Ab 60 73 false (BE Tryz.prog 73 0) (miHd rows m i) [(A1 73 15, .b false)] [3] = some ((.exit 0, miOut m), [], [decide (i < (rows.length : Int)) = false]) := by kernel_rfl
theorem mi_step (rows : A8) (m m' i i' y : Int) (X : X) (st : St) : AY C0 Ab 60 (.code 73 false (BE Tryz.prog 73 0) (miHd rows m i)) [(A1 73 15, .b true), (A1 73 21, .row [di y]), (A1 73 23, .int m'), (A1 73 17, .int i'), (A1 73 8001, .loop [0, 3, 4] X st)] =
  some (.code X st, [], [decide (i < (rows.length : Int)) = true, 0 ≤ i ∧ rows[i.toNat]? = some [di y], (if y < m then y else m) = m', IntKind.wrap .i64 (i + 1) = i', Ev C0 Ab (.code 73 false (BE Tryz.prog 73 0) (miHd rows m' i')) (.code X st)]) := by kernel_rfl
theorem mi_call (rows : A8) (y m : Int) : Cs C0 Ab 60 73 [.one (.mn 1 rows)] [(A1 73 7, .b false), (A1 73 10, .row [di y]), (A1 73 8001, .loop [0, 3, 4] (.exit 0) (miOut m))] =
  some ([A5 m], [], [decide ((rows.length : Int) < 1) = false, 0 ≤ (0 : Int) ∧ rows[(0 : Int).toNat]? = some [di y], Ev C0 Ab (.code 73 false (BE Tryz.prog 73 0) (miHd rows y 1)) (.code (.exit 0) (miOut m))]) := by kernel_rfl
def minL (a : Int) (l : List Int) : Int := l.foldl (fun m y => if y < m then y else m) a
theorem minL_lt (b : Int) : ∀ (l : List Int) (a : Int), decide (minL a l < b) = (decide (a < b) || l.any fun y => decide (y < b))
 | [], a => by show decide (a < b) = (decide (a < b) || false); rw [Bool.or_false]
 | y :: l, a => by
  have := minL_lt b l (if y < a then y else a)
  show decide (minL (if y < a then y else a) l < b) = _
  rw [this, List.any_cons]
  by_cases h : y < a
  ·rw [if_pos h]
   by_cases h1 : y < b
   ·simp [h1]
   ·have : ¬ a < b := by omega
    simp [h1, this]
  ·rw [if_neg h]
   by_cases h1 : a < b
   ·simp [h1]
   ·have : ¬ y < b := by omega
    simp [h1, this]
def miS : Spec
 | [.one (.mn 1 rows)] => match Ae intR rows with
  | some (a :: l) => if l.length < 2 ^ 30 then some [A5 (minL a l)] else none
  | _ => none
 | _ => none
theorem mi_loop (l : List Int) (hl : l.length ≤ 2 ^ 30) : ∀ (r : List Int) (i : Nat) (m : Int), l.drop i = r → i + r.length = l.length →
  Ev C0 Ab (.code 73 false (BE Tryz.prog 73 0) (miHd (A6 l) m i)) (.code (.exit 0) (miOut (minL m r)))
 | [], i, m, hd, hi => Ac (mi_exit _ m i) (A0 (by rw [Ax]; exact dge (by simp at hi; omega)) A2)
 | y :: r, i, m, hd, hi => by
  simp only [List.length_cons] at hi
  have hil : i < l.length := by omega
  have hy : l[i] = y := by
   rw [List.drop_eq_getElem_cons hil] at hd
   exact (List.cons.inj hd).1
  have hd' : l.drop (i + 1) = r := by
   rw [List.drop_eq_getElem_cons hil] at hd
   exact (List.cons.inj hd).2
  have ih := mi_loop l hl r (i + 1) (if y < m then y else m) hd' (by omega)
  exact Aa _ _ _ _ _ _ (mi_step _ m _ i ((i + 1 : Nat) : Int) y _ _) (A0 (by rw [Ax]; exact dlt hil) (A0 ⟨by omega, B2 (by rw [List.getElem?_eq_getElem hil, hy])⟩ (A0 rfl (A0 (Ag (by omega)) (A0 ih A2)))))
theorem mi_sat : AJ C0 73 miS := Af (O := Ab) BN (fun _ _ h => h.elim) Bm fun ps rs hs => by
 unfold miS at hs
 split at hs
 ·rename_i rows
  split at hs
  ·rename_i a l hl
   split at hs
   ·rename_i hc
    simp only [Option.some.injEq] at hs
    subst hs
    obtain rfl := intsR_eq hl
    have hk := mi_loop (a :: l) (by simp; omega) l 1 a rfl (by simp; omega)
    exact A4 (mi_call _ a _) (A0 (decide_eq_false (by rw [Ax]; simp; omega)) (A0 ⟨Int.le_refl _, rfl⟩ (A0 hk A2)))
   ·cases hs
  ·cases hs
 ·cases hs
structure Lst where
 head : Int
 next : List Int
def Lst.cs (l : Lst) : List DV := [di l.head, .mn 1 (A6 l.next)]
structure Wld where
 words : List Nat
 tasks : List Tsk
 queues : List Que
 lists : List Lst
 stops : List (List Hnd)
 bys : List Int
def Ak (l : List Que) : A8 := l.map Que.cs
def As (l : List Lst) : A8 := l.map Lst.cs
def Ao (l : List (List Hnd)) : A8 := l.map fun h => [.mn 2 (Aj h)]
def Wld.cs (w : Wld) : List DV := [.mn 1 (An w.words), .mn 3 (Aq w.tasks), .mn 7 (Ak w.queues), .mn 2 (As w.lists), .mn 1 (Ao w.stops), .mn 1 (A6 w.bys)]
structure Wld.Ok (w : Wld) : Prop where
 words : ∀ x ∈ w.words, x < 2 ^ 64
 tasks : ∀ t ∈ w.tasks, 0 ≤ t.mask ∧ t.mask < 2 ^ 64
 queues : ∀ q ∈ w.queues, q.Ok
 nw : w.words.length < 2 ^ 20
 nq : w.queues.length < 2 ^ 20
 nb : w.bys.length < 2 ^ 20
 ns : ∀ l ∈ w.stops, l.length < 2 ^ 20
def lstR : List DV → Option Lst
 | [.v (.int .i64 h), .mn 1 rows] => match Ae intR rows with
  | some l => some ⟨h, l⟩
  | none => none
 | _ => none
def stpR : List DV → Option (List Hnd)
 | [.mn 2 rows] => Ae hndR rows
 | _ => none
theorem allSome_map {α : Type} {f : List DV → Option α} {g : α → List DV} (hf : ∀ r a, f r = some a → r = g a) : ∀ {rows : A8} {l : List α}, Ae f rows = some l → rows = l.map g
 | [], l, h => by simp only [Ae, Option.some.injEq] at h; subst h; rfl
 | r :: rows, l, h => by
  simp only [Ae] at h
  cases hx : f r with
  | none => simp [hx] at h
  | some x =>
   cases hy : Ae f rows with
   | none => simp [hx, hy] at h
   | some y =>
    simp only [hx, hy, Option.some.injEq] at h
    subst h
    rw [allSome_map hf hy, hf _ _ hx]; rfl
theorem allSome_all {α : Type} {f : List DV → Option α} {P : α → Prop} (hf : ∀ r a, f r = some a → P a) : ∀ {rows : A8} {l : List α}, Ae f rows = some l → ∀ a ∈ l, P a
 | [], l, h => by simp only [Ae, Option.some.injEq] at h; subst h; intro a ha; cases ha
 | r :: rows, l, h => by
  simp only [Ae] at h
  cases hx : f r with
  | none => simp [hx] at h
  | some x =>
   cases hy : Ae f rows with
   | none => simp [hx, hy] at h
   | some y =>
    simp only [hx, hy, Option.some.injEq] at h
    subst h
    intro a ha
    rcases List.mem_cons.1 ha with rfl | ha
    ·exact hf _ _ hx
    ·exact allSome_all hf hy a ha
theorem Ca {α : Type} {f : List DV → Option α} {g : α → List DV} : ∀ {l : List α}, (∀ a ∈ l, f (g a) = some a) → Ae f (l.map g) = some l
 | [], _ => rfl
 | a :: l, h => by
  have e := Ca (l := l) (fun b hb => h b (List.mem_cons_of_mem _ hb))
  simp only [List.map_cons, Ae, h a (List.mem_cons_self ..), e]
theorem lstR_eq {r : List DV} {l : Lst} (h : lstR r = some l) : r = l.cs := by
 unfold lstR at h
 split at h
 ·split at h
  ·rename_i hl
   simp only [Option.some.injEq] at h
   subst h
   rw [intsR_eq hl]; rfl
  ·cases h
 ·cases h
theorem stpR_eq {r : List DV} {l : List Hnd} (h : stpR r = some l) : r = [.mn 2 (Aj l)] := by
 unfold stpR at h
 split at h
 ·rw [hrows_of h]
 ·cases h
open Classical in
noncomputable def wldR : List DV → Option Wld
 | [.mn 1 a, .mn 3 b, .mn 7 c, .mn 2 d, .mn 1 e, .mn 1 f] => match Ae wordR a, Ae tskR b, Ae queR c, Ae lstR d, Ae stpR e, Ae intR f with
  | some words, some tasks, some queues, some lists, some stops, some bys => if Wld.Ok ⟨words, tasks, queues, lists, stops, bys⟩ then some ⟨words, tasks, queues, lists, stops, bys⟩ else none
  | _, _, _, _, _, _ => none
 | _ => none
theorem BY {cs : List DV} {w : Wld} (h : wldR cs = some w) : cs = w.cs ∧ w.Ok := by
 unfold wldR at h
 split at h
 ·split at h
  ·rename_i h1 h2 h3 h4 h5 h6
   split at h
   ·rename_i ok
    simp only [Option.some.injEq] at h
    subst h
    obtain ⟨rfl, -⟩ := wrows_of h1
    obtain rfl := trows_of h2
    obtain rfl := allSome_map (g := Que.cs) (fun r a e => (queR_eq e).1) h3
    obtain rfl := allSome_map (g := Lst.cs) (fun r a e => lstR_eq e) h4
    obtain rfl := allSome_map (g := fun h => [.mn 2 (Aj h)]) (fun r a e => stpR_eq e) h5
    obtain rfl := intsR_eq h6
    exact ⟨rfl, ok⟩
   ·cases h
  ·cases h
 ·cases h
theorem wldR_cs {w : Wld} (ok : w.Ok) : wldR w.cs = some w := by
 have h1 : Ae wordR (An w.words) = some w.words := Ca fun x hx => by
  have := ok.words x hx
  simp only [wordR, du]
  rw [if_pos ⟨by omega, by exact_mod_cast this⟩, Int.toNat_natCast]
 have h2 : Ae tskR (Aq w.tasks) = some w.tasks := Ca fun t _ => rfl
 have h3 : Ae queR (Ak w.queues) = some w.queues := Ca fun q hq => queR_cs (ok.queues q hq)
 have h4 : Ae lstR (As w.lists) = some w.lists := Ca fun l _ => by simp only [lstR, Lst.cs, di, Br]
 have h5 : Ae stpR (Ao w.stops) = some w.stops := Ca fun l _ => by simp only [stpR]; exact hndR_hrows l
 simp only [wldR, Wld.cs, h1, h2, h3, h4, h5, Br]
 rw [if_pos ok]
def plOK (line runs listed own : Bool) (k : Int) : Bool := !(line != (own && k == 4)) && (!(runs != (own && k == 5)) && ((own && k == 2) || !(listed != (own && k == 3))))
def plc (w : Wld) (i : Nat) (k c : Int) (j : Nat) : Bool := match w.queues[j]?, w.lists[j]? with
 | some q, some l => plOK (Bw q.ns i) (q.cur == (i : Int)) ((l.next[i]?).getD 0 != -2) ((j : Int) == c) k
 | _, _ => true
def plsR (w : Wld) (i : Nat) (k c : Int) : Bool := (List.range w.queues.length).all (plc w i k c)
def plsIn (w : Wld) (i : Nat) : Prop := w.lists.length = w.queues.length ∧ (∀ q ∈ w.queues, i < q.ns.length) ∧ ∀ l ∈ w.lists, i < l.next.length
def Bg (k c s g : Int) (b : Bool) : List DV := [di k, di c, db b, di s, di g]
open Classical in
noncomputable def plsV (i k c : Int) : Option Wld → Option (List PV)
 | some w => if 0 ≤ i ∧ plsIn w i.toNat then some [A3 (plsR w i.toNat k c)] else none
 | none => none
noncomputable def plsS : Spec
 | [.agg cs, .one (.v (.int .i64 i)), .agg [.v (.int .i64 k), .v (.int .i64 c), .v (.bool _), .v (.int .i64 _), .v (.int .i64 _)]] => plsV i k c (wldR cs)
 | _ => none
theorem plsS_at {w : Wld} {i : Nat} {k c s g : Int} {b : Bool} (ok : w.Ok) (h : plsIn w i) : plsS [.agg w.cs, A5 i, .agg (Bg k c s g b)] = some [A3 (plsR w i k c)] := by
 show plsV i k c (wldR w.cs) = _
 rw [wldR_cs ok]
 unfold plsV
 simp only
 rw [if_pos ⟨by omega, by rw [Int.toNat_natCast]; exact h⟩, Int.toNat_natCast]
def AM (wd tk qr lr sr bw : A8) : List DV := [.mn 1 wd, .mn 3 tk, .mn 7 qr, .mn 2 lr, .mn 1 sr, .mn 1 bw]
def whH (wd tk qr lr sr bw : A8) (k c s g : Int) (b : Bool) : H := { objs := [(A1 141 3, 1, [.cells ((AM wd tk qr lr sr bw).map .d) false]), (A1 141 5, 1, [.cells ((Bg k c s g b).map .d) false])] }
def whX (wd tk qr lr sr bw : A8) (k c s g : Int) (b : Bool) (qc : List DV) : H := { objs := [(A1 141 3, 1, [.cells ((AM wd tk qr lr sr bw).map .d) false]), (A1 141 5, 1, [.cells ((Bg k c s g b).map .d) false]), (A1 141 8, 1, [.cells (qc.map .d) false])] }
def whHd (wd tk qr lr sr bw : A8) (k c s g : Int) (b : Bool) (i j : Int) : St := { σ := Ap 76 [(1, vi i), (3, .ptr (A1 141 3) 0 0), (5, .ptr (A1 141 5) 0 0), (12, .d (.mn 7 qr)), (13, vi qr.length), (14, vi j)], h := whH wd tk qr lr sr bw k c s g b }
def whOut (wd tk qr lr sr bw : A8) (k c s g : Int) (b : Bool) : St := { σ := Ap 76 [], h := whH wd tk qr lr sr bw k c s g b }
def whRet (wd tk qr lr sr bw : A8) (k c s g : Int) (b : Bool) : St := { σ := Ap 76 [(6, vb false)], h := whH wd tk qr lr sr bw k c s g b }
def plHd (wd tk qr lr sr bw : A8) (k c s g : Int) (b : Bool) (i j : Int) : St := { σ := Ap 84 [(1, vi i), (3, .ptr (A1 156 3) 0 0), (5, .ptr (A1 156 5) 0 0), (7, vi j)], h := { objs := [(A1 156 3, 1, [.cells ((AM wd tk qr lr sr bw).map .d) false]), (A1 156 5, 1, [.cells ((Bg k c s g b).map .d) false])] } }
def plOut (wd tk qr lr sr bw : A8) (k c s g : Int) (b : Bool) : St := { σ := Ap 84 [], h := { objs := [(A1 156 3, 1, [.cells ((AM wd tk qr lr sr bw).map .d) false]), (A1 156 5, 1, [.cells ((Bg k c s g b).map .d) false])] } }
def plRet (wd tk qr lr sr bw : A8) (k c s g : Int) (b : Bool) : St := { σ := Ap 84 [(6, vb false)], h := { objs := [(A1 156 3, 1, [.cells ((AM wd tk qr lr sr bw).map .d) false]), (A1 156 5, 1, [.cells ((Bg k c s g b).map .d) false])] } }
theorem wh_exit (wd tk qr lr sr bw : A8) (k c s g : Int) (b : Bool) (i j : Int) : symM C0 Ab 60 141 false (BE Tryz.prog 141 0) (whHd wd tk qr lr sr bw k c s g b i j) [(A1 141 15, .b false)] [] = some ((.exit 0, whOut wd tk qr lr sr bw k c s g b), [], [decide (j < (qr.length : Int)) = false]) := by kernel_rfl
theorem pl_exit (wd tk qr lr sr bw : A8) (k c s g : Int) (b : Bool) (i j : Int) : symM C0 Ab 60 156 false (BE Tryz.prog 156 0) (plHd wd tk qr lr sr bw k c s g b i j) [(A1 156 16, .b false)] [] = some ((.exit 0, plOut wd tk qr lr sr bw k c s g b), [], [decide (j < (qr.length : Int)) = false]) := by kernel_rfl
def whN (j' : Int) (X : X) (st : St) : Ah := [(A1 141 75, .int j'), (A1 141 8002, .drop [A1 141 8] [1, 3, 5, 12, 13, 14]), (A1 141 8001, .loop [1, 3, 5, 12, 13, 14] X st)]
def whK (wd tk qr lr sr bw : A8) (k c s g : Int) (b : Bool) (i j j' : Int) (X : X) (st : St) : List Prop := [IntKind.wrap .i64 (j + 1) = j', true = true, true = true, true = true, Ev C0 Ab (.code 141 false (BE Tryz.prog 141 0) (whHd wd tk qr lr sr bw k c s g b i j')) (.code X st)]
def plN (j' : Int) (X : X) (st : St) : Ah := [(A1 156 18, .int j'), (A1 156 8001, .loop [1, 3, 5, 7] X st)]
def plK (wd tk qr lr sr bw : A8) (k c s g : Int) (b : Bool) (i j j' : Int) (X : X) (st : St) : List Prop := [IntKind.wrap .i64 (j + 1) = j', Ev C0 Ab (.code 156 false (BE Tryz.prog 156 0) (plHd wd tk qr lr sr bw k c s g b i j')) (.code X st)]
def whS (root cur v m load : Int) (ns wl nx : A8) (hd y : Int) (line red : Bool) (nv nl nr nu : Int) (own z : Bool) (l : Ah) : Ah := (A1 141 15, .b true) :: (A1 141 17, .row (Bs root cur v m load ns wl)) :: (A1 141 22, .b own) :: (A1 141 26, .row [di hd, .mn 1 nx]) :: (A1 141 30, .row [di y]) :: (A1 141 32, .b z) :: (A1 141 38, .row (BU line red nv nl nr nu)) :: l
def whO (qr lr : A8) (c i j : Int) (root cur v m load : Int) (ns wl nx : A8) (hd y : Int) (line red : Bool) (nv nl nr nu : Int) (own z : Bool) (l : List Prop) : List Prop :=
 (decide (j < (qr.length : Int)) = true) :: (0 ≤ j ∧ qr[j.toNat]? = some (Bs root cur v m load ns wl)) :: ((j == c) = own) :: (0 ≤ j ∧ lr[j.toNat]? = some [di hd, .mn 1 nx]) :: (0 ≤ i ∧ nx[i.toNat]? = some [di y]) :: ((y != -2) = z) :: (0 ≤ i ∧ ns[i.toNat]? = some (BU line red nv nl nr nu)) :: l
def plS (root cur v m load : Int) (ns wl nx : A8) (hd y : Int) (line red : Bool) (nv nl nr nu : Int) (own r z : Bool) (l : Ah) : Ah := (A1 156 16, .b true) :: (A1 156 22, .b own) :: (A1 156 26, .row (Bs root cur v m load ns wl)) :: (A1 156 31, .row (BU line red nv nl nr nu)) :: (A1 156 37, .row (Bs root cur v m load ns wl)) :: (A1 156 41, .b r) :: (A1 156 45, .row [di hd, .mn 1 nx]) :: (A1 156 49, .row [di y]) :: (A1 156 51, .b z) :: l
def plO (qr lr : A8) (c i j : Int) (root cur v m load : Int) (ns wl nx : A8) (hd y : Int) (line red : Bool) (nv nl nr nu : Int) (own r z : Bool) (l : List Prop) : List Prop :=
 (decide (j < (qr.length : Int)) = true) :: ((j == c) = own) :: (0 ≤ j ∧ qr[j.toNat]? = some (Bs root cur v m load ns wl)) :: (0 ≤ i ∧ ns[i.toNat]? = some (BU line red nv nl nr nu)) :: (0 ≤ j ∧ qr[j.toNat]? = some (Bs root cur v m load ns wl)) :: ((cur == i) = r) :: (0 ≤ j ∧ lr[j.toNat]? = some [di hd, .mn 1 nx]) :: (0 ≤ i ∧ nx[i.toNat]? = some [di y]) :: ((y != -2) = z) :: l
theorem wh_a1 (wd tk qr lr sr bw : A8) (k c s g : Int) (b : Bool) (i j : Int) (root cur v m load : Int) (ns wl nx : A8) (hd y : Int) (line red : Bool) (nv nl nr nu : Int) (z r t1 t2 t3 k4 k5 k3 : Bool) : symD C0 Ab 60 141 false (BE Tryz.prog 141 0) (whHd wd tk qr lr sr bw k c s g b i j) (whS root cur v m load ns wl nx hd y line red nv nl nr nu true z [(A1 141 45, .b k4), (A1 141 47, .b true)]) [6] [A1 141 8] = some ((.ret, whRet wd tk qr lr sr bw k c s g b), [], whO qr lr c i j root cur v m load ns wl nx hd y line red nv nl nr nu true z ([(k == 4) = k4, (line != k4) = true] ++ td3)) := by kernel_rfl
theorem wh_a2 (wd tk qr lr sr bw : A8) (k c s g : Int) (b : Bool) (i j : Int) (root cur v m load : Int) (ns wl nx : A8) (hd y : Int) (line red : Bool) (nv nl nr nu : Int) (z r t1 t2 t3 k4 k5 k3 : Bool) : symD C0 Ab 60 141 false (BE Tryz.prog 141 0) (whHd wd tk qr lr sr bw k c s g b i j) (whS root cur v m load ns wl nx hd y line red nv nl nr nu true z [(A1 141 45, .b k4), (A1 141 47, .b false), (A1 141 51, .b r), (A1 141 56, .b k5), (A1 141 58, .b true)]) [6] [A1 141 8] = some ((.ret, whRet wd tk qr lr sr bw k c s g b), [], whO qr lr c i j root cur v m load ns wl nx hd y line red nv nl nr nu true z ([(k == 4) = k4, (line != k4) = false, (cur == i) = r, (k == 5) = k5, (r != k5) = true] ++ td3)) := by kernel_rfl
theorem wh_a3 (wd tk qr lr sr bw : A8) (k c s g : Int) (b : Bool) (i j j' : Int) (root cur v m load : Int) (ns wl nx : A8) (hd y : Int) (line red : Bool) (nv nl nr nu : Int) (z r t1 t2 t3 k4 k5 k3 : Bool) (X : X) (st : St) : AY C0 Ab 60 (.code 141 false (BE Tryz.prog 141 0) (whHd wd tk qr lr sr bw k c s g b i j)) (whS root cur v m load ns wl nx hd y line red nv nl nr nu true z ([(A1 141 45, .b k4), (A1 141 47, .b false), (A1 141 51, .b r), (A1 141 56, .b k5), (A1 141 58, .b false), (A1 141 64, .b true)] ++ whN j' X st)) = some (.code X st, [], whO qr lr c i j root cur v m load ns wl nx hd y line red nv nl nr nu true z ([(k == 4) = k4, (line != k4) = false, (cur == i) = r, (k == 5) = k5, (r != k5) = false, (k == 2) = true] ++ whK wd tk qr lr sr bw k c s g b i j j' X st)) := by kernel_rfl
theorem wh_a4 (wd tk qr lr sr bw : A8) (k c s g : Int) (b : Bool) (i j : Int) (root cur v m load : Int) (ns wl nx : A8) (hd y : Int) (line red : Bool) (nv nl nr nu : Int) (z r t1 t2 t3 k4 k5 k3 : Bool) : symD C0 Ab 60 141 false (BE Tryz.prog 141 0) (whHd wd tk qr lr sr bw k c s g b i j) (whS root cur v m load ns wl nx hd y line red nv nl nr nu true z [(A1 141 45, .b k4), (A1 141 47, .b false), (A1 141 51, .b r), (A1 141 56, .b k5), (A1 141 58, .b false), (A1 141 64, .b false), (A1 141 72, .b k3), (A1 141 74, .b true)]) [6] [A1 141 8] = some ((.ret, whRet wd tk qr lr sr bw k c s g b), [], whO qr lr c i j root cur v m load ns wl nx hd y line red nv nl nr nu true z ([(k == 4) = k4, (line != k4) = false, (cur == i) = r, (k == 5) = k5, (r != k5) = false, (k == 2) = false, (k == 3) = k3, (z != k3) = true] ++ td3)) := by kernel_rfl
theorem wh_a5 (wd tk qr lr sr bw : A8) (k c s g : Int) (b : Bool) (i j j' : Int) (root cur v m load : Int) (ns wl nx : A8) (hd y : Int) (line red : Bool) (nv nl nr nu : Int) (z r t1 t2 t3 k4 k5 k3 : Bool) (X : X) (st : St) : AY C0 Ab 60 (.code 141 false (BE Tryz.prog 141 0) (whHd wd tk qr lr sr bw k c s g b i j)) (whS root cur v m load ns wl nx hd y line red nv nl nr nu true z ([(A1 141 45, .b k4), (A1 141 47, .b false), (A1 141 51, .b r), (A1 141 56, .b k5), (A1 141 58, .b false), (A1 141 64, .b false), (A1 141 72, .b k3), (A1 141 74, .b false)] ++ whN j' X st)) = some (.code X st, [], whO qr lr c i j root cur v m load ns wl nx hd y line red nv nl nr nu true z ([(k == 4) = k4, (line != k4) = false, (cur == i) = r, (k == 5) = k5, (r != k5) = false, (k == 2) = false, (k == 3) = k3, (z != k3) = false] ++ whK wd tk qr lr sr bw k c s g b i j j' X st)) := by kernel_rfl
theorem wh_b1 (wd tk qr lr sr bw : A8) (k c s g : Int) (b : Bool) (i j : Int) (root cur v m load : Int) (ns wl nx : A8) (hd y : Int) (line red : Bool) (nv nl nr nu : Int) (z r t1 t2 t3 k4 k5 k3 : Bool) : symD C0 Ab 60 141 false (BE Tryz.prog 141 0) (whHd wd tk qr lr sr bw k c s g b i j) (whS root cur v m load ns wl nx hd y line red nv nl nr nu false z [(A1 141 47, .b true)]) [6] [A1 141 8] = some ((.ret, whRet wd tk qr lr sr bw k c s g b), [], whO qr lr c i j root cur v m load ns wl nx hd y line red nv nl nr nu false z ([(line != false) = true] ++ td3)) := by kernel_rfl
theorem wh_b2 (wd tk qr lr sr bw : A8) (k c s g : Int) (b : Bool) (i j : Int) (root cur v m load : Int) (ns wl nx : A8) (hd y : Int) (line red : Bool) (nv nl nr nu : Int) (z r t1 t2 t3 k4 k5 k3 : Bool) : symD C0 Ab 60 141 false (BE Tryz.prog 141 0) (whHd wd tk qr lr sr bw k c s g b i j) (whS root cur v m load ns wl nx hd y line red nv nl nr nu false z [(A1 141 47, .b false), (A1 141 51, .b r), (A1 141 58, .b true)]) [6] [A1 141 8] = some ((.ret, whRet wd tk qr lr sr bw k c s g b), [], whO qr lr c i j root cur v m load ns wl nx hd y line red nv nl nr nu false z ([(line != false) = false, (cur == i) = r, (r != false) = true] ++ td3)) := by kernel_rfl
theorem wh_b3 (wd tk qr lr sr bw : A8) (k c s g : Int) (b : Bool) (i j : Int) (root cur v m load : Int) (ns wl nx : A8) (hd y : Int) (line red : Bool) (nv nl nr nu : Int) (z r t1 t2 t3 k4 k5 k3 : Bool) : symD C0 Ab 60 141 false (BE Tryz.prog 141 0) (whHd wd tk qr lr sr bw k c s g b i j) (whS root cur v m load ns wl nx hd y line red nv nl nr nu false z [(A1 141 47, .b false), (A1 141 51, .b r), (A1 141 58, .b false), (A1 141 74, .b true)]) [6] [A1 141 8] = some ((.ret, whRet wd tk qr lr sr bw k c s g b), [], whO qr lr c i j root cur v m load ns wl nx hd y line red nv nl nr nu false z ([(line != false) = false, (cur == i) = r, (r != false) = false, (z != false) = true] ++ td3)) := by kernel_rfl
theorem wh_b4 (wd tk qr lr sr bw : A8) (k c s g : Int) (b : Bool) (i j j' : Int) (root cur v m load : Int) (ns wl nx : A8) (hd y : Int) (line red : Bool) (nv nl nr nu : Int) (z r t1 t2 t3 k4 k5 k3 : Bool) (X : X) (st : St) : AY C0 Ab 60 (.code 141 false (BE Tryz.prog 141 0) (whHd wd tk qr lr sr bw k c s g b i j)) (whS root cur v m load ns wl nx hd y line red nv nl nr nu false z ([(A1 141 47, .b false), (A1 141 51, .b r), (A1 141 58, .b false), (A1 141 74, .b false)] ++ whN j' X st)) = some (.code X st, [], whO qr lr c i j root cur v m load ns wl nx hd y line red nv nl nr nu false z ([(line != false) = false, (cur == i) = r, (r != false) = false, (z != false) = false] ++ whK wd tk qr lr sr bw k c s g b i j j' X st)) := by kernel_rfl
theorem pl_a1 (wd tk qr lr sr bw : A8) (k c s g : Int) (b : Bool) (i j : Int) (root cur v m load : Int) (ns wl nx : A8) (hd y : Int) (line red : Bool) (nv nl nr nu : Int) (z r t1 t2 t3 k4 k5 k3 : Bool) : symM C0 Ab 60 156 false (BE Tryz.prog 156 0) (plHd wd tk qr lr sr bw k c s g b i j) (plS root cur v m load ns wl nx hd y line red nv nl nr nu true r z [(A1 156 57, .b k4), (A1 156 59, .b true)]) [6] = some ((.ret, plRet wd tk qr lr sr bw k c s g b), [], plO qr lr c i j root cur v m load ns wl nx hd y line red nv nl nr nu true r z [(k == 4) = k4, (line != k4) = true]) := by kernel_rfl
theorem pl_a2 (wd tk qr lr sr bw : A8) (k c s g : Int) (b : Bool) (i j : Int) (root cur v m load : Int) (ns wl nx : A8) (hd y : Int) (line red : Bool) (nv nl nr nu : Int) (z r t1 t2 t3 k4 k5 k3 : Bool) : symM C0 Ab 60 156 false (BE Tryz.prog 156 0) (plHd wd tk qr lr sr bw k c s g b i j) (plS root cur v m load ns wl nx hd y line red nv nl nr nu true r z [(A1 156 57, .b k4), (A1 156 59, .b false), (A1 156 66, .b k5), (A1 156 68, .b true)]) [6] = some ((.ret, plRet wd tk qr lr sr bw k c s g b), [], plO qr lr c i j root cur v m load ns wl nx hd y line red nv nl nr nu true r z [(k == 4) = k4, (line != k4) = false, (k == 5) = k5, (r != k5) = true]) := by kernel_rfl
theorem pl_a3 (wd tk qr lr sr bw : A8) (k c s g : Int) (b : Bool) (i j j' : Int) (root cur v m load : Int) (ns wl nx : A8) (hd y : Int) (line red : Bool) (nv nl nr nu : Int) (z r t1 t2 t3 k4 k5 k3 : Bool) (X : X) (st : St) : AY C0 Ab 60 (.code 156 false (BE Tryz.prog 156 0) (plHd wd tk qr lr sr bw k c s g b i j)) (plS root cur v m load ns wl nx hd y line red nv nl nr nu true r z ([(A1 156 57, .b k4), (A1 156 59, .b false), (A1 156 66, .b k5), (A1 156 68, .b false), (A1 156 72, .b true)] ++ plN j' X st)) = some (.code X st, [], plO qr lr c i j root cur v m load ns wl nx hd y line red nv nl nr nu true r z ([(k == 4) = k4, (line != k4) = false, (k == 5) = k5, (r != k5) = false, (k == 2) = true] ++ plK wd tk qr lr sr bw k c s g b i j j' X st)) := by kernel_rfl
theorem pl_a4 (wd tk qr lr sr bw : A8) (k c s g : Int) (b : Bool) (i j : Int) (root cur v m load : Int) (ns wl nx : A8) (hd y : Int) (line red : Bool) (nv nl nr nu : Int) (z r t1 t2 t3 k4 k5 k3 : Bool) : symM C0 Ab 60 156 false (BE Tryz.prog 156 0) (plHd wd tk qr lr sr bw k c s g b i j) (plS root cur v m load ns wl nx hd y line red nv nl nr nu true r z [(A1 156 57, .b k4), (A1 156 59, .b false), (A1 156 66, .b k5), (A1 156 68, .b false), (A1 156 72, .b false), (A1 156 81, .b k3), (A1 156 83, .b true)]) [6] = some ((.ret, plRet wd tk qr lr sr bw k c s g b), [], plO qr lr c i j root cur v m load ns wl nx hd y line red nv nl nr nu true r z [(k == 4) = k4, (line != k4) = false, (k == 5) = k5, (r != k5) = false, (k == 2) = false, (k == 3) = k3, (z != k3) = true]) := by kernel_rfl
theorem pl_a5 (wd tk qr lr sr bw : A8) (k c s g : Int) (b : Bool) (i j j' : Int) (root cur v m load : Int) (ns wl nx : A8) (hd y : Int) (line red : Bool) (nv nl nr nu : Int) (z r t1 t2 t3 k4 k5 k3 : Bool) (X : X) (st : St) : AY C0 Ab 60 (.code 156 false (BE Tryz.prog 156 0) (plHd wd tk qr lr sr bw k c s g b i j)) (plS root cur v m load ns wl nx hd y line red nv nl nr nu true r z ([(A1 156 57, .b k4), (A1 156 59, .b false), (A1 156 66, .b k5), (A1 156 68, .b false), (A1 156 72, .b false), (A1 156 81, .b k3), (A1 156 83, .b false)] ++ plN j' X st)) = some (.code X st, [], plO qr lr c i j root cur v m load ns wl nx hd y line red nv nl nr nu true r z ([(k == 4) = k4, (line != k4) = false, (k == 5) = k5, (r != k5) = false, (k == 2) = false, (k == 3) = k3, (z != k3) = false] ++ plK wd tk qr lr sr bw k c s g b i j j' X st)) := by kernel_rfl
theorem pl_b1 (wd tk qr lr sr bw : A8) (k c s g : Int) (b : Bool) (i j : Int) (root cur v m load : Int) (ns wl nx : A8) (hd y : Int) (line red : Bool) (nv nl nr nu : Int) (z r t1 t2 t3 k4 k5 k3 : Bool) : symM C0 Ab 60 156 false (BE Tryz.prog 156 0) (plHd wd tk qr lr sr bw k c s g b i j) (plS root cur v m load ns wl nx hd y line red nv nl nr nu false r z [(A1 156 59, .b true)]) [6] = some ((.ret, plRet wd tk qr lr sr bw k c s g b), [], plO qr lr c i j root cur v m load ns wl nx hd y line red nv nl nr nu false r z [(line != false) = true]) := by kernel_rfl
theorem pl_b2 (wd tk qr lr sr bw : A8) (k c s g : Int) (b : Bool) (i j : Int) (root cur v m load : Int) (ns wl nx : A8) (hd y : Int) (line red : Bool) (nv nl nr nu : Int) (z r t1 t2 t3 k4 k5 k3 : Bool) : symM C0 Ab 60 156 false (BE Tryz.prog 156 0) (plHd wd tk qr lr sr bw k c s g b i j) (plS root cur v m load ns wl nx hd y line red nv nl nr nu false r z [(A1 156 59, .b false), (A1 156 68, .b true)]) [6] = some ((.ret, plRet wd tk qr lr sr bw k c s g b), [], plO qr lr c i j root cur v m load ns wl nx hd y line red nv nl nr nu false r z [(line != false) = false, (r != false) = true]) := by kernel_rfl
theorem pl_b3t (wd tk qr lr sr bw : A8) (k c s g : Int) (b : Bool) (i j : Int) (root cur v m load : Int) (ns wl nx : A8) (hd y : Int) (line red : Bool) (nv nl nr nu : Int) (z r t1 t2 t3 k4 k5 k3 : Bool) : symM C0 Ab 60 156 false (BE Tryz.prog 156 0) (plHd wd tk qr lr sr bw k c s g b i j) (plS root cur v m load ns wl nx hd y line red nv nl nr nu false r z [(A1 156 59, .b false), (A1 156 68, .b false), (A1 156 72, .b true), (A1 156 83, .b true)]) [6] = some ((.ret, plRet wd tk qr lr sr bw k c s g b), [], plO qr lr c i j root cur v m load ns wl nx hd y line red nv nl nr nu false r z [(line != false) = false, (r != false) = false, (k == 2) = true, (z != false) = true]) := by kernel_rfl
theorem pl_b4t (wd tk qr lr sr bw : A8) (k c s g : Int) (b : Bool) (i j j' : Int) (root cur v m load : Int) (ns wl nx : A8) (hd y : Int) (line red : Bool) (nv nl nr nu : Int) (z r t1 t2 t3 k4 k5 k3 : Bool) (X : X) (st : St) : AY C0 Ab 60 (.code 156 false (BE Tryz.prog 156 0) (plHd wd tk qr lr sr bw k c s g b i j)) (plS root cur v m load ns wl nx hd y line red nv nl nr nu false r z ([(A1 156 59, .b false), (A1 156 68, .b false), (A1 156 72, .b true), (A1 156 83, .b false)] ++ plN j' X st)) = some (.code X st, [], plO qr lr c i j root cur v m load ns wl nx hd y line red nv nl nr nu false r z ([(line != false) = false, (r != false) = false, (k == 2) = true, (z != false) = false] ++ plK wd tk qr lr sr bw k c s g b i j j' X st)) := by kernel_rfl
theorem pl_b3f (wd tk qr lr sr bw : A8) (k c s g : Int) (b : Bool) (i j : Int) (root cur v m load : Int) (ns wl nx : A8) (hd y : Int) (line red : Bool) (nv nl nr nu : Int) (z r t1 t2 t3 k4 k5 k3 : Bool) : symM C0 Ab 60 156 false (BE Tryz.prog 156 0) (plHd wd tk qr lr sr bw k c s g b i j) (plS root cur v m load ns wl nx hd y line red nv nl nr nu false r z [(A1 156 59, .b false), (A1 156 68, .b false), (A1 156 72, .b false), (A1 156 83, .b true)]) [6] = some ((.ret, plRet wd tk qr lr sr bw k c s g b), [], plO qr lr c i j root cur v m load ns wl nx hd y line red nv nl nr nu false r z [(line != false) = false, (r != false) = false, (k == 2) = false, (z != false) = true]) := by kernel_rfl
theorem pl_b4f (wd tk qr lr sr bw : A8) (k c s g : Int) (b : Bool) (i j j' : Int) (root cur v m load : Int) (ns wl nx : A8) (hd y : Int) (line red : Bool) (nv nl nr nu : Int) (z r t1 t2 t3 k4 k5 k3 : Bool) (X : X) (st : St) : AY C0 Ab 60 (.code 156 false (BE Tryz.prog 156 0) (plHd wd tk qr lr sr bw k c s g b i j)) (plS root cur v m load ns wl nx hd y line red nv nl nr nu false r z ([(A1 156 59, .b false), (A1 156 68, .b false), (A1 156 72, .b false), (A1 156 83, .b false)] ++ plN j' X st)) = some (.code X st, [], plO qr lr c i j root cur v m load ns wl nx hd y line red nv nl nr nu false r z ([(line != false) = false, (r != false) = false, (k == 2) = false, (z != false) = false] ++ plK wd tk qr lr sr bw k c s g b i j j' X st)) := by kernel_rfl
theorem BH {l : List Que} {i : Nat} {q : Que} (h : l[i]? = some q) : (Ak l)[((i : Nat) : Int).toNat]? = some q.cs := by simp [Ak, h]
theorem lrows_at {l : List Lst} {i : Nat} {x : Lst} (h : l[i]? = some x) : (As l)[((i : Nat) : Int).toNat]? = some x.cs := by simp [As, h]
theorem AD (l : List Que) : (Ak l).length = l.length := by simp [Ak]
theorem Cq (l : List Lst) : (As l).length = l.length := by simp [As]
theorem Cl {n i : Nat} (h : i < n) : (List.range n).drop i = i :: (List.range n).drop (i + 1) := by
 have := List.drop_eq_getElem_cons (l := List.range n) (i := i) (by simpa using h)
 simpa using this
theorem range_end {n i : Nat} (h : n ≤ i) : (List.range n).drop i = [] := List.drop_eq_nil_of_le (by simpa using h)
def whGo (w : Wld) (k c s g : Int) (b : Bool) (i j : Int) (x : X) (st : St) : Prop := Ev C0 Ab (.code 141 false (BE Tryz.prog 141 0) (whHd (An w.words) (Aq w.tasks) (Ak w.queues) (As w.lists) (Ao w.stops) (A6 w.bys) k c s g b i j)) (.code x st)
def whRes (w : Wld) (k c s g : Int) (b ok : Bool) : X × St := if ok then (.exit 0, whOut (An w.words) (Aq w.tasks) (Ak w.queues) (As w.lists) (Ao w.stops) (A6 w.bys) k c s g b) else (.ret, whRet (An w.words) (Aq w.tasks) (Ak w.queues) (As w.lists) (Ao w.stops) (A6 w.bys) k c s g b)
theorem wh_loop (w : Wld) (ok : w.Ok) (i : Nat) (hin : plsIn w i) (k c s g : Int) (b : Bool) : ∀ (d j : Nat), j + d = w.queues.length →
  whGo w k c s g b i j (whRes w k c s g b (((List.range w.queues.length).drop j).all (plc w i k c))).1 (whRes w k c s g b (((List.range w.queues.length).drop j).all (plc w i k c))).2
 | 0, j, h => by
  rw [range_end (by omega)]
  exact Ac (wh_exit _ _ _ _ _ _ _ _ _ _ _ _ _) (A0 (by rw [AD]; exact dge (by omega)) A2)
 | d + 1, j, h => by
  have hj : j < w.queues.length := by omega
  have hnq := ok.nq
  obtain ⟨hll, hqi, hli⟩ := hin
  have hjl : j < w.lists.length := by omega
  have ih := wh_loop w ok i ⟨hll, hqi, hli⟩ k c s g b d (j + 1) (by omega)
  have h1 := hqi _ (List.getElem_mem hj)
  have h2 := hli _ (List.getElem_mem hjl)
  have hpl : plc w i k c j = plOK (Bw w.queues[j].ns i) (w.queues[j].cur == (i : Int)) ((w.lists[j].next[i]?).getD 0 != -2) ((j : Int) == c) k := by
   simp only [plc, List.getElem?_eq_getElem hj, List.getElem?_eq_getElem hjl]
  have b0 : decide ((j : Int) < ((Ak w.queues).length : Int)) = true := by rw [AD]; exact dlt hj
  have hq : 0 ≤ (j : Int) ∧ (Ak w.queues)[((j : Int)).toNat]? = some (w.queues[j]).cs := ⟨by omega, BH (List.getElem?_eq_getElem hj)⟩
  have hl : 0 ≤ (j : Int) ∧ (As w.lists)[((j : Int)).toNat]? = some (w.lists[j]).cs := ⟨by omega, lrows_at (List.getElem?_eq_getElem hjl)⟩
  rw [Cl hj, List.all_cons, hpl]
  generalize w.queues[j] = q at h1 hq ⊢
  generalize w.lists[j] = l at h2 hl ⊢
  have hn : 0 ≤ (i : Int) ∧ (A9 q.ns)[((i : Int)).toNat]? = some (q.ns[i]).cs := ⟨by omega, AS (List.getElem?_eq_getElem h1)⟩
  have hy : 0 ≤ (i : Int) ∧ (A6 l.next)[((i : Int)).toNat]? = some [di l.next[i]] := ⟨by omega, B2 (List.getElem?_eq_getElem h2)⟩
  have e1 : Bw q.ns i = q.ns[i].inn := by simp only [Bw, List.getElem?_eq_getElem h1]
  have e2 : (l.next[i]?).getD 0 = l.next[i] := by rw [List.getElem?_eq_getElem h2]; rfl
  rw [e1, e2]
  generalize q.ns[i] = nd at hn ⊢
  generalize l.next[i] = y at hy ⊢
  obtain ⟨line, red, nv, nl, nr, nu⟩ := nd
  have wr : IntKind.wrap .i64 ((j : Int) + 1) = ((j + 1 : Nat) : Int) := Ag (by omega)
  have ob : ∀ {own : Bool} {lp : List Prop}, ((j : Int) == c) = own → AI lp → AI (whO (Ak w.queues) (As w.lists) c i j q.root q.cur q.v q.m q.load (A9 q.ns) (A6 q.ws) (A6 l.next) l.head y line red nv nl nr nu own (y != -2) lp) := fun ho hL =>
   A0 b0 (A0 hq (A0 ho (A0 hl (A0 hy (A0 rfl (A0 hn hL))))))
  unfold plOK
  cases ho : ((j : Int) == c) with
  | true =>
   simp only [Bool.true_and]
   cases t1 : (line != (k == 4)) with
   | true =>
    rw [Bool.not_true, Bool.false_and, Bool.false_and]
    exact B4 (wh_a1 _ _ _ _ _ _ k c s g b i j q.root q.cur q.v q.m q.load (A9 q.ns) (A6 q.ws) (A6 l.next) l.head y line red nv nl nr nu (y != -2) (q.cur == (i : Int)) false false false (k == 4) (k == 5) (k == 3)) (ob ho (AQ (A0 rfl (A0 t1 A2)) td3_ok))
   | false =>
    rw [Bool.not_false, Bool.true_and]
    cases t2 : ((q.cur == (i : Int)) != (k == 5)) with
    | true =>
     rw [Bool.not_true, Bool.false_and, Bool.false_and]
     exact B4 (wh_a2 _ _ _ _ _ _ k c s g b i j q.root q.cur q.v q.m q.load (A9 q.ns) (A6 q.ws) (A6 l.next) l.head y line red nv nl nr nu (y != -2) (q.cur == (i : Int)) false false false (k == 4) (k == 5) (k == 3)) (ob ho (AQ (A0 rfl (A0 t1 (A0 rfl (A0 rfl (A0 t2 A2))))) td3_ok))
    | false =>
     rw [Bool.not_false, Bool.true_and]
     cases t4 : (k == 2) with
     | true =>
      rw [Bool.true_or, Bool.true_and]
      exact Aa _ _ _ _ _ _ (wh_a3 _ _ _ _ _ _ k c s g b i j ((j + 1 : Nat) : Int) q.root q.cur q.v q.m q.load (A9 q.ns) (A6 q.ws) (A6 l.next) l.head y line red nv nl nr nu (y != -2) (q.cur == (i : Int)) false false false (k == 4) (k == 5) (k == 3) _ _) (ob ho (AQ (A0 rfl (A0 t1 (A0 rfl (A0 rfl (A0 t2 (A0 t4 A2)))))) (A0 wr (A0 rfl (A0 rfl (A0 rfl (A0 ih A2)))))))
     | false =>
      rw [Bool.false_or]
      cases t3 : ((y != -2) != (k == 3)) with
      | true =>
       rw [Bool.not_true, Bool.false_and]
       exact B4 (wh_a4 _ _ _ _ _ _ k c s g b i j q.root q.cur q.v q.m q.load (A9 q.ns) (A6 q.ws) (A6 l.next) l.head y line red nv nl nr nu (y != -2) (q.cur == (i : Int)) false false false (k == 4) (k == 5) (k == 3)) (ob ho (AQ (A0 rfl (A0 t1 (A0 rfl (A0 rfl (A0 t2 (A0 t4 (A0 rfl (A0 t3 A2)))))))) td3_ok))
      | false =>
       rw [Bool.not_false, Bool.true_and]
       exact Aa _ _ _ _ _ _ (wh_a5 _ _ _ _ _ _ k c s g b i j ((j + 1 : Nat) : Int) q.root q.cur q.v q.m q.load (A9 q.ns) (A6 q.ws) (A6 l.next) l.head y line red nv nl nr nu (y != -2) (q.cur == (i : Int)) false false false (k == 4) (k == 5) (k == 3) _ _) (ob ho (AQ (A0 rfl (A0 t1 (A0 rfl (A0 rfl (A0 t2 (A0 t4 (A0 rfl (A0 t3 A2)))))))) (A0 wr (A0 rfl (A0 rfl (A0 rfl (A0 ih A2)))))))
  | false =>
   simp only [Bool.false_and, Bool.false_or]
   cases t1 : (line != false) with
   | true =>
    rw [Bool.not_true, Bool.false_and, Bool.false_and]
    exact B4 (wh_b1 _ _ _ _ _ _ k c s g b i j q.root q.cur q.v q.m q.load (A9 q.ns) (A6 q.ws) (A6 l.next) l.head y line red nv nl nr nu (y != -2) (q.cur == (i : Int)) false false false (k == 4) (k == 5) (k == 3)) (ob ho (AQ (A0 t1 A2) td3_ok))
   | false =>
    rw [Bool.not_false, Bool.true_and]
    cases t2 : ((q.cur == (i : Int)) != false) with
    | true =>
     rw [Bool.not_true, Bool.false_and, Bool.false_and]
     exact B4 (wh_b2 _ _ _ _ _ _ k c s g b i j q.root q.cur q.v q.m q.load (A9 q.ns) (A6 q.ws) (A6 l.next) l.head y line red nv nl nr nu (y != -2) (q.cur == (i : Int)) false false false (k == 4) (k == 5) (k == 3)) (ob ho (AQ (A0 t1 (A0 rfl (A0 t2 A2))) td3_ok))
    | false =>
     rw [Bool.not_false, Bool.true_and]
     cases t3 : ((y != -2) != false) with
     | true =>
      rw [Bool.not_true, Bool.false_and]
      exact B4 (wh_b3 _ _ _ _ _ _ k c s g b i j q.root q.cur q.v q.m q.load (A9 q.ns) (A6 q.ws) (A6 l.next) l.head y line red nv nl nr nu (y != -2) (q.cur == (i : Int)) false false false (k == 4) (k == 5) (k == 3)) (ob ho (AQ (A0 t1 (A0 rfl (A0 t2 (A0 t3 A2)))) td3_ok))
     | false =>
      rw [Bool.not_false, Bool.true_and]
      exact Aa _ _ _ _ _ _ (wh_b4 _ _ _ _ _ _ k c s g b i j ((j + 1 : Nat) : Int) q.root q.cur q.v q.m q.load (A9 q.ns) (A6 q.ws) (A6 l.next) l.head y line red nv nl nr nu (y != -2) (q.cur == (i : Int)) false false false (k == 4) (k == 5) (k == 3) _ _) (ob ho (AQ (A0 t1 (A0 rfl (A0 t2 (A0 t3 A2)))) (A0 wr (A0 rfl (A0 rfl (A0 rfl (A0 ih A2)))))))
theorem wh_callt (wd tk qr lr sr bw : A8) (k c s g i : Int) (b : Bool) : Cs C0 Ab 60 141 [.agg (AM wd tk qr lr sr bw), A5 i, .agg (Bg k c s g b)] [(A1 141 8001, .loop [1, 3, 5, 12, 13, 14] (.exit 0) (whOut wd tk qr lr sr bw k c s g b))] = some ([A3 true], [], [Ev C0 Ab (.code 141 false (BE Tryz.prog 141 0) (whHd wd tk qr lr sr bw k c s g b i 0)) (.code (.exit 0) (whOut wd tk qr lr sr bw k c s g b))]) := by kernel_rfl
theorem wh_callf (wd tk qr lr sr bw : A8) (k c s g i : Int) (b : Bool) : Cs C0 Ab 60 141 [.agg (AM wd tk qr lr sr bw), A5 i, .agg (Bg k c s g b)] [(A1 141 8001, .loop [1, 3, 5, 12, 13, 14] .ret (whRet wd tk qr lr sr bw k c s g b))] = some ([A3 false], [], [Ev C0 Ab (.code 141 false (BE Tryz.prog 141 0) (whHd wd tk qr lr sr bw k c s g b i 0)) (.code .ret (whRet wd tk qr lr sr bw k c s g b))]) := by kernel_rfl
theorem wh_sat : AJ C0 141 plsS := Af (O := Ab) BN (fun _ _ h => h.elim) Bm fun ps rs hs => by
 unfold plsS at hs
 split at hs
 ·rename_i cs i k c b s g
  unfold plsV at hs
  split at hs
  ·rename_i w hw
   split at hs
   ·rename_i hc
    obtain ⟨hi, hin⟩ := hc
    obtain ⟨n, rfl⟩ := Int.eq_ofNat_of_zero_le hi
    simp only [Option.some.injEq, Int.toNat_natCast] at hs hin
    subst hs
    obtain ⟨rfl, ok⟩ := BY hw
    have hk := wh_loop w ok n hin k c s g b w.queues.length 0 (by omega)
    rw [List.drop_zero] at hk
    have e : (List.range w.queues.length).all (plc w n k c) = plsR w n k c := rfl
    rw [e] at hk
    cases h : plsR w n k c with
    | true => rw [h] at hk; exact A4 (wh_callt _ _ _ _ _ _ k c s g n b) (A0 hk A2)
    | false => rw [h] at hk; exact A4 (wh_callf _ _ _ _ _ _ k c s g n b) (A0 hk A2)
   ·cases hs
  ·cases hs
 ·cases hs
def plGo (w : Wld) (k c s g : Int) (b : Bool) (i j : Int) (x : X) (st : St) : Prop := Ev C0 Ab (.code 156 false (BE Tryz.prog 156 0) (plHd (An w.words) (Aq w.tasks) (Ak w.queues) (As w.lists) (Ao w.stops) (A6 w.bys) k c s g b i j)) (.code x st)
def plRes (w : Wld) (k c s g : Int) (b ok : Bool) : X × St := if ok then (.exit 0, plOut (An w.words) (Aq w.tasks) (Ak w.queues) (As w.lists) (Ao w.stops) (A6 w.bys) k c s g b) else (.ret, plRet (An w.words) (Aq w.tasks) (Ak w.queues) (As w.lists) (Ao w.stops) (A6 w.bys) k c s g b)
theorem pl_loop (w : Wld) (ok : w.Ok) (i : Nat) (hin : plsIn w i) (k c s g : Int) (b : Bool) : ∀ (d j : Nat), j + d = w.queues.length →
  plGo w k c s g b i j (plRes w k c s g b (((List.range w.queues.length).drop j).all (plc w i k c))).1 (plRes w k c s g b (((List.range w.queues.length).drop j).all (plc w i k c))).2
 | 0, j, h => by
  rw [range_end (by omega)]
  exact Ac (pl_exit _ _ _ _ _ _ _ _ _ _ _ _ _) (A0 (by rw [AD]; exact dge (by omega)) A2)
 | d + 1, j, h => by
  have hj : j < w.queues.length := by omega
  have hnq := ok.nq
  obtain ⟨hll, hqi, hli⟩ := hin
  have hjl : j < w.lists.length := by omega
  have ih := pl_loop w ok i ⟨hll, hqi, hli⟩ k c s g b d (j + 1) (by omega)
  have h1 := hqi _ (List.getElem_mem hj)
  have h2 := hli _ (List.getElem_mem hjl)
  have hpl : plc w i k c j = plOK (Bw w.queues[j].ns i) (w.queues[j].cur == (i : Int)) ((w.lists[j].next[i]?).getD 0 != -2) ((j : Int) == c) k := by
   simp only [plc, List.getElem?_eq_getElem hj, List.getElem?_eq_getElem hjl]
  have b0 : decide ((j : Int) < ((Ak w.queues).length : Int)) = true := by rw [AD]; exact dlt hj
  have hq : 0 ≤ (j : Int) ∧ (Ak w.queues)[((j : Int)).toNat]? = some (w.queues[j]).cs := ⟨by omega, BH (List.getElem?_eq_getElem hj)⟩
  have hl : 0 ≤ (j : Int) ∧ (As w.lists)[((j : Int)).toNat]? = some (w.lists[j]).cs := ⟨by omega, lrows_at (List.getElem?_eq_getElem hjl)⟩
  rw [Cl hj, List.all_cons, hpl]
  generalize w.queues[j] = q at h1 hq ⊢
  generalize w.lists[j] = l at h2 hl ⊢
  have hn : 0 ≤ (i : Int) ∧ (A9 q.ns)[((i : Int)).toNat]? = some (q.ns[i]).cs := ⟨by omega, AS (List.getElem?_eq_getElem h1)⟩
  have hy : 0 ≤ (i : Int) ∧ (A6 l.next)[((i : Int)).toNat]? = some [di l.next[i]] := ⟨by omega, B2 (List.getElem?_eq_getElem h2)⟩
  have e1 : Bw q.ns i = q.ns[i].inn := by simp only [Bw, List.getElem?_eq_getElem h1]
  have e2 : (l.next[i]?).getD 0 = l.next[i] := by rw [List.getElem?_eq_getElem h2]; rfl
  rw [e1, e2]
  generalize q.ns[i] = nd at hn ⊢
  generalize l.next[i] = y at hy ⊢
  obtain ⟨line, red, nv, nl, nr, nu⟩ := nd
  have wr : IntKind.wrap .i64 ((j : Int) + 1) = ((j + 1 : Nat) : Int) := Ag (by omega)
  have ob : ∀ {own : Bool} {lp : List Prop}, ((j : Int) == c) = own → AI lp → AI (plO (Ak w.queues) (As w.lists) c i j q.root q.cur q.v q.m q.load (A9 q.ns) (A6 q.ws) (A6 l.next) l.head y line red nv nl nr nu own (q.cur == (i : Int)) (y != -2) lp) := fun ho hL =>
   A0 b0 (A0 ho (A0 hq (A0 hn (A0 hq (A0 rfl (A0 hl (A0 hy (A0 rfl hL))))))))
  unfold plOK
  cases ho : ((j : Int) == c) with
  | true =>
   simp only [Bool.true_and]
   cases t1 : (line != (k == 4)) with
   | true =>
    rw [Bool.not_true, Bool.false_and, Bool.false_and]
    exact Ac (pl_a1 _ _ _ _ _ _ k c s g b i j q.root q.cur q.v q.m q.load (A9 q.ns) (A6 q.ws) (A6 l.next) l.head y line red nv nl nr nu (y != -2) (q.cur == (i : Int)) false false false (k == 4) (k == 5) (k == 3)) (ob ho (A0 rfl (A0 t1 A2)))
   | false =>
    rw [Bool.not_false, Bool.true_and]
    cases t2 : ((q.cur == (i : Int)) != (k == 5)) with
    | true =>
     rw [Bool.not_true, Bool.false_and, Bool.false_and]
     exact Ac (pl_a2 _ _ _ _ _ _ k c s g b i j q.root q.cur q.v q.m q.load (A9 q.ns) (A6 q.ws) (A6 l.next) l.head y line red nv nl nr nu (y != -2) (q.cur == (i : Int)) false false false (k == 4) (k == 5) (k == 3)) (ob ho (A0 rfl (A0 t1 (A0 rfl (A0 t2 A2)))))
    | false =>
     rw [Bool.not_false, Bool.true_and]
     cases t4 : (k == 2) with
     | true =>
      rw [Bool.true_or, Bool.true_and]
      exact Aa _ _ _ _ _ _ (pl_a3 _ _ _ _ _ _ k c s g b i j ((j + 1 : Nat) : Int) q.root q.cur q.v q.m q.load (A9 q.ns) (A6 q.ws) (A6 l.next) l.head y line red nv nl nr nu (y != -2) (q.cur == (i : Int)) false false false (k == 4) (k == 5) (k == 3) _ _) (ob ho (AQ (A0 rfl (A0 t1 (A0 rfl (A0 t2 (A0 t4 A2))))) (A0 wr (A0 ih A2))))
     | false =>
      rw [Bool.false_or]
      cases t3 : ((y != -2) != (k == 3)) with
      | true =>
       rw [Bool.not_true, Bool.false_and]
       exact Ac (pl_a4 _ _ _ _ _ _ k c s g b i j q.root q.cur q.v q.m q.load (A9 q.ns) (A6 q.ws) (A6 l.next) l.head y line red nv nl nr nu (y != -2) (q.cur == (i : Int)) false false false (k == 4) (k == 5) (k == 3)) (ob ho (A0 rfl (A0 t1 (A0 rfl (A0 t2 (A0 t4 (A0 rfl (A0 t3 A2))))))))
      | false =>
       rw [Bool.not_false, Bool.true_and]
       exact Aa _ _ _ _ _ _ (pl_a5 _ _ _ _ _ _ k c s g b i j ((j + 1 : Nat) : Int) q.root q.cur q.v q.m q.load (A9 q.ns) (A6 q.ws) (A6 l.next) l.head y line red nv nl nr nu (y != -2) (q.cur == (i : Int)) false false false (k == 4) (k == 5) (k == 3) _ _) (ob ho (AQ (A0 rfl (A0 t1 (A0 rfl (A0 t2 (A0 t4 (A0 rfl (A0 t3 A2))))))) (A0 wr (A0 ih A2))))
  | false =>
   simp only [Bool.false_and, Bool.false_or]
   cases t1 : (line != false) with
   | true =>
    rw [Bool.not_true, Bool.false_and, Bool.false_and]
    exact Ac (pl_b1 _ _ _ _ _ _ k c s g b i j q.root q.cur q.v q.m q.load (A9 q.ns) (A6 q.ws) (A6 l.next) l.head y line red nv nl nr nu (y != -2) (q.cur == (i : Int)) false false false (k == 4) (k == 5) (k == 3)) (ob ho (A0 t1 A2))
   | false =>
    rw [Bool.not_false, Bool.true_and]
    cases t2 : ((q.cur == (i : Int)) != false) with
    | true =>
     rw [Bool.not_true, Bool.false_and, Bool.false_and]
     exact Ac (pl_b2 _ _ _ _ _ _ k c s g b i j q.root q.cur q.v q.m q.load (A9 q.ns) (A6 q.ws) (A6 l.next) l.head y line red nv nl nr nu (y != -2) (q.cur == (i : Int)) false false false (k == 4) (k == 5) (k == 3)) (ob ho (A0 t1 (A0 t2 A2)))
    | false =>
     rw [Bool.not_false, Bool.true_and]
     cases t3 : ((y != -2) != false) with
     | true =>
      rw [Bool.not_true, Bool.false_and]
      cases t4 : (k == 2) with
      | true => exact Ac (pl_b3t _ _ _ _ _ _ k c s g b i j q.root q.cur q.v q.m q.load (A9 q.ns) (A6 q.ws) (A6 l.next) l.head y line red nv nl nr nu (y != -2) (q.cur == (i : Int)) false false false (k == 4) (k == 5) (k == 3)) (ob ho (A0 t1 (A0 t2 (A0 t4 (A0 t3 A2)))))
      | false => exact Ac (pl_b3f _ _ _ _ _ _ k c s g b i j q.root q.cur q.v q.m q.load (A9 q.ns) (A6 q.ws) (A6 l.next) l.head y line red nv nl nr nu (y != -2) (q.cur == (i : Int)) false false false (k == 4) (k == 5) (k == 3)) (ob ho (A0 t1 (A0 t2 (A0 t4 (A0 t3 A2)))))
     | false =>
      rw [Bool.not_false, Bool.true_and]
      cases t4 : (k == 2) with
      | true => exact Aa _ _ _ _ _ _ (pl_b4t _ _ _ _ _ _ k c s g b i j ((j + 1 : Nat) : Int) q.root q.cur q.v q.m q.load (A9 q.ns) (A6 q.ws) (A6 l.next) l.head y line red nv nl nr nu (y != -2) (q.cur == (i : Int)) false false false (k == 4) (k == 5) (k == 3) _ _) (ob ho (AQ (A0 t1 (A0 t2 (A0 t4 (A0 t3 A2)))) (A0 wr (A0 ih A2))))
      | false => exact Aa _ _ _ _ _ _ (pl_b4f _ _ _ _ _ _ k c s g b i j ((j + 1 : Nat) : Int) q.root q.cur q.v q.m q.load (A9 q.ns) (A6 q.ws) (A6 l.next) l.head y line red nv nl nr nu (y != -2) (q.cur == (i : Int)) false false false (k == 4) (k == 5) (k == 3) _ _) (ob ho (AQ (A0 t1 (A0 t2 (A0 t4 (A0 t3 A2)))) (A0 wr (A0 ih A2))))
theorem pl_callt (wd tk qr lr sr bw : A8) (k c s g i : Int) (b : Bool) : Cs C0 Ab 60 156 [.agg (AM wd tk qr lr sr bw), A5 i, .agg (Bg k c s g b)] [(A1 156 8001, .loop [1, 3, 5, 7] (.exit 0) (plOut wd tk qr lr sr bw k c s g b))] = some ([A3 true], [], [Ev C0 Ab (.code 156 false (BE Tryz.prog 156 0) (plHd wd tk qr lr sr bw k c s g b i 0)) (.code (.exit 0) (plOut wd tk qr lr sr bw k c s g b))]) := by kernel_rfl
theorem pl_callf (wd tk qr lr sr bw : A8) (k c s g i : Int) (b : Bool) : Cs C0 Ab 60 156 [.agg (AM wd tk qr lr sr bw), A5 i, .agg (Bg k c s g b)] [(A1 156 8001, .loop [1, 3, 5, 7] .ret (plRet wd tk qr lr sr bw k c s g b))] = some ([A3 false], [], [Ev C0 Ab (.code 156 false (BE Tryz.prog 156 0) (plHd wd tk qr lr sr bw k c s g b i 0)) (.code .ret (plRet wd tk qr lr sr bw k c s g b))]) := by kernel_rfl
theorem pl_sat : AJ C0 156 plsS := Af (O := Ab) BN (fun _ _ h => h.elim) Bm fun ps rs hs => by
 unfold plsS at hs
 split at hs
 ·rename_i cs i k c b s g
  unfold plsV at hs
  split at hs
  ·rename_i w hw
   split at hs
   ·rename_i hc
    obtain ⟨hi, hin⟩ := hc
    obtain ⟨n, rfl⟩ := Int.eq_ofNat_of_zero_le hi
    simp only [Option.some.injEq, Int.toNat_natCast] at hs hin
    subst hs
    obtain ⟨rfl, ok⟩ := BY hw
    have hk := pl_loop w ok n hin k c s g b w.queues.length 0 (by omega)
    rw [List.drop_zero] at hk
    have e : (List.range w.queues.length).all (plc w n k c) = plsR w n k c := rfl
    rw [e] at hk
    cases h : plsR w n k c with
    | true => rw [h] at hk; exact A4 (pl_callt _ _ _ _ _ _ k c s g n b) (A0 hk A2)
    | false => rw [h] at hk; exact A4 (pl_callf _ _ _ _ _ _ k c s g n b) (A0 hk A2)
   ·cases hs
  ·cases hs
 ·cases hs
end Go.Ev
