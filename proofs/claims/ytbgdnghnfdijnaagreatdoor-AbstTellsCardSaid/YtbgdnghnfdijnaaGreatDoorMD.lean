/- What the proof of this claim needs: part MD. No conditions. -/
import Derived.Test.YtbgdnghnfdijnaaGreatDoorMC
set_option linter.unusedVariables false
set_option linter.unusedSimpArgs false
namespace Go.Ev
open Go Go.RowKit Go.Proofs
theorem dlt {i n : Nat} (h : i < n) : decide ((i : Int) < ((n : Nat) : Int)) = true := decide_eq_true (by omega)
theorem dge {i n : Nat} (h : n ≤ i) : decide ((i : Int) < ((n : Nat) : Int)) = false := decide_eq_false (by omega)
def inHd (rows : A8) (f : Bool) (x i : Int) : St := { σ := Ap 18 [(0, .d (.sl 1 f rows)), (1, vi x), (5, vi i)], h := {} }
def inOut : St := { σ := Ap 18 [], h := {} }
def inHit : St := { σ := Ap 18 [(4, vb true)], h := {} }
theorem in_exit (rows : A8) (f : Bool) (x i : Int) : sM C0 200 0 (inHd rows f x i) [(A1 200 9, .b false)] [] = some ((.exit 0, inOut), [], [decide (i < (rows.length : Int)) = false]) := by kernel_rfl
theorem in_hit (rows : A8) (f : Bool) (x i y : Int) : sM C0 200 0 (inHd rows f x i) [(A1 200 9, .b true), (A1 200 14, .row [di y]), (A1 200 17, .b true)] [4] =
  some ((.ret, inHit), [], [decide (i < (rows.length : Int)) = true, 0 ≤ i ∧ rows[i.toNat]? = some [di y], (y == x) = true]) := by kernel_rfl
theorem in_step (rows : A8) (f : Bool) (x i i' y : Int) (X : X) (st : St) : AY C0 Ab 60 (Lp 200 0 (inHd rows f x i)) [(A1 200 9, .b true), (A1 200 14, .row [di y]), (A1 200 17, .b false), (A1 200 11, .int i'), (A1 200 8001, .loop [0, 1, 5] X st)] =
  some (.code X st, [], [decide (i < (rows.length : Int)) = true, 0 ≤ i ∧ rows[i.toNat]? = some [di y], (y == x) = false, IntKind.wrap .i64 (i + 1) = i', Ev C0 Ab (Lp 200 0 (inHd rows f x i')) (.code X st)]) := by kernel_rfl
def inRes (t : Bool) : X × St := if t then (.ret, inHit) else (.exit 0, inOut)
theorem in_loop (f : Bool) (x : Int) (l : List Int) (hl : l.length < 2 ^ 30) : ∀ (d i : Nat), i + d = l.length → Ev C0 Ab (Lp 200 0 (inHd (A6 l) f x i)) (.code (inRes ((l.drop i).contains x)).1 (inRes ((l.drop i).contains x)).2)
 | 0, i, h => by
  have : l.drop i = [] := List.drop_eq_nil_of_le (by omega)
  rw [this]
  exact Ac (in_exit _ _ _ _) (A0 (by rw [Ax]; exact dge (by omega)) A2)
 | d + 1, i, h => by
  have hi : i < l.length := by omega
  have hd : l.drop i = l[i] :: l.drop (i + 1) := List.drop_eq_getElem_cons hi
  have hr : 0 ≤ (i : Int) ∧ (A6 l)[((i : Int)).toNat]? = some [di l[i]] := ⟨by omega, B2 (List.getElem?_eq_getElem hi)⟩
  have hlt : decide ((i : Int) < ((A6 l).length : Int)) = true := by rw [Ax]; exact dlt hi
  rw [hd]
  by_cases he : l[i] = x
  ·have : (l[i] :: l.drop (i + 1)).contains x = true := by simp [he]
   rw [this]
   exact Ac (in_hit _ _ _ _ _) (A0 hlt (A0 hr (A0 (by simp [he]) A2)))
  ·have : (l[i] :: l.drop (i + 1)).contains x = (l.drop (i + 1)).contains x := by
    rw [List.contains_cons]
    have : (x == l[i]) = false := by simp; exact fun h => he h.symm
    rw [this, Bool.false_or]
   rw [this]
   exact Aa _ _ _ _ _ _ (in_step _ _ _ _ ((i + 1 : Nat) : Int) _ _ _) (A0 hlt (A0 hr (A0 (by simpa using he) (A0 (Ag (by omega)) (A0 (in_loop f x l hl d (i + 1) (by omega)) A2)))))
theorem in_call (rows : A8) (f : Bool) (x : Int) (t : Bool) : sV C0 200 [.one (.sl 1 f rows), A5 x] [(A1 200 8001, .loop [0, 1, 5] (inRes false).1 (inRes false).2)] = some ([A3 false], [], [Ev C0 Ab (Lp 200 0 (inHd rows f x 0)) (.code (inRes false).1 (inRes false).2)]) := by kernel_rfl
theorem in_callT (rows : A8) (f : Bool) (x : Int) (t : Bool) : sV C0 200 [.one (.sl 1 f rows), A5 x] [(A1 200 8001, .loop [0, 1, 5] (inRes true).1 (inRes true).2)] = some ([A3 true], [], [Ev C0 Ab (Lp 200 0 (inHd rows f x 0)) (.code (inRes true).1 (inRes true).2)]) := by kernel_rfl
theorem in_nil (x : Int) : sV C0 200 [.one dnil, A5 x] [] = some ([A3 false], [], []) := by kernel_rfl
def inS : Spec
 | [.one d, .one (.v (.int .i64 x))] => match intsD d with
  | some l => if l.length < 2 ^ 30 then some [A3 (l.contains x)] else none
  | none => none
 | _ => none
theorem in_sat : AJ C0 200 inS := Af (O := Ab) BN (fun _ _ h => h.elim) Bm fun ps rs hs => by
 unfold inS at hs
 split at hs
 ·rename_i d x
  split at hs
  ·rename_i l hl
   split at hs
   ·rename_i hb
    cases hs
    unfold intsD at hl
    split at hl
    ·simp only [Option.some.injEq] at hl
     subst hl
     exact A4 (in_nil x) A2
    ·rename_i f rows
     have := intsR_eq hl
     subst this
     have h := in_loop f x l hb l.length 0 (by omega)
     rw [List.drop_zero] at h
     cases ht : l.contains x with
     | false => rw [ht] at h; exact A4 (in_call _ f x true) (A0 h A2)
     | true => rw [ht] at h; exact A4 (in_callT _ f x true) (A0 h A2)
    ·cases hl
   ·cases hs
  ·cases hs
 ·cases hs
theorem inS_row (l : List Int) (x : Int) (h : l.length < 2 ^ 30) : inS [.one (rowD 1 (A6 l)), A5 x] = some [A3 (l.contains x)] := by
 simp only [inS, A5, intsD_rowD]
 rw [if_pos h]
noncomputable def CI : Ctx := Ad C0 200 inS
theorem hPI : Aw CI := A7 BN in_sat (by kernel_rfl)
structure Nod where
 inn : Bool
 red : Bool
 v : Nat
 l : Int
 r : Int
 u : Int
def Nod.cs (n : Nod) : List DV := [db n.inn, db n.red, du n.v, di n.l, di n.r, di n.u]
def nodR : List DV → Option Nod
 | [.v (.bool a), .v (.bool b), .v (.int .u64 v), .v (.int .i64 l), .v (.int .i64 r), .v (.int .i64 u)] => if 0 ≤ v ∧ v < 2 ^ 64 then some ⟨a, b, v.toNat, l, r, u⟩ else none
 | _ => none
def A9 (l : List Nod) : A8 := l.map Nod.cs
theorem nodR_eq {r : List DV} {n : Nod} (h : nodR r = some n) : r = n.cs ∧ n.v < 2 ^ 64 := by
 unfold nodR at h
 split at h
 ·rename_i a b v l r u
  split at h
  ·rename_i hc
   obtain ⟨m, rfl⟩ := Int.eq_ofNat_of_zero_le hc.1
   have hn : m < 2 ^ 64 := by have := hc.2; exact_mod_cast this
   simp only [Option.some.injEq, Int.toNat_natCast] at h
   subst h
   exact ⟨rfl, hn⟩
  ·cases h
 ·cases h
theorem nrows_of {rows : A8} {l : List Nod} (h : Ae nodR rows = some l) : rows = A9 l ∧ ∀ n ∈ l, n.v < 2 ^ 64 := by
 induction rows generalizing l with
 | nil => simp only [Ae, Option.some.injEq] at h; subst h; exact ⟨rfl, fun w hw => by cases hw⟩
 | cons r rows ih =>
  simp only [Ae] at h
  cases hx : nodR r with
  | none => simp [hx] at h
  | some x =>
   cases hy : Ae nodR rows with
   | none => simp [hx, hy] at h
   | some y =>
    simp only [hx, hy, Option.some.injEq] at h
    subst h
    obtain ⟨e, hb⟩ := ih hy
    obtain ⟨e1, h1⟩ := nodR_eq hx
    refine ⟨by rw [e, e1]; rfl, fun w hw => ?_⟩
    rcases List.mem_cons.1 hw with rfl | hw
    ·exact h1
    ·exact hb w hw
theorem Ay (l : List Nod) : (A9 l).length = l.length := by simp [A9]
theorem AS {l : List Nod} {i : Nat} {n : Nod} (h : l[i]? = some n) : (A9 l)[((i : Nat) : Int).toNat]? = some n.cs := by simp [A9, h]
def Bk (ns : List Nod) (x : Int) : Option Nod := if x < 0 then none else ns[x.toNat]?
def gok (ns : List Nod) (x up : Int) (seen : List Int) : Option Nod := match Bk ns x with
 | none => none
 | some n => if seen.contains x || (!n.inn || n.u != up) then none else some n
def AZ (ns : List Nod) : Nat → Int → Int → List Int → List Int × List Int × Bool
 | 0, _, _, seen => ([], seen, false)
 | k + 1, x, up, seen => if x = -1 then ([], seen, true) else match gok ns x up seen with
  | none => ([], seen, false)
  | some n =>
   if (AZ ns k n.l x (seen ++ [x])).2.2 then
    ((AZ ns k n.l x (seen ++ [x])).1 ++ x :: (AZ ns k n.r x (AZ ns k n.l x (seen ++ [x])).2.1).1, (AZ ns k n.r x (AZ ns k n.l x (seen ++ [x])).2.1).2.1, (AZ ns k n.r x (AZ ns k n.l x (seen ++ [x])).2.1).2.2)
   else ([], (AZ ns k n.l x (seen ++ [x])).2.1, false)
theorem C9 {ns : List Nod} {x : Int} {n : Nod} (h : Bk ns x = some n) : ∃ i : Nat, x = (i : Int) ∧ i < ns.length ∧ ns[i]? = some n := by
 unfold Bk at h
 split at h
 ·cases h
 ·rename_i hx
  obtain ⟨i, rfl⟩ := Int.eq_ofNat_of_zero_le (Int.not_lt.1 hx)
  rw [Int.toNat_natCast] at h
  exact ⟨i, rfl, (List.getElem?_eq_some_iff.1 h).1, h⟩
theorem gok_some {ns : List Nod} {x up : Int} {seen : List Int} {n : Nod} (h : gok ns x up seen = some n) : Bk ns x = some n ∧ seen.contains x = false ∧ n.inn = true ∧ n.u = up := by
 unfold gok at h
 split at h
 ·cases h
 ·rename_i m hm
  split at h
  ·cases h
  ·rename_i hc
   cases h
   simp only [Bool.or_eq_true, not_or, Bool.not_eq_true, Bool.not_eq_eq_eq_not, Bool.not_true, bne_eq_false_iff_eq] at hc
   exact ⟨hm, hc.1, by simpa using hc.2.1, by simpa using hc.2.2⟩
def gIn (ns : List Nod) (seen : List Int) : Prop := seen.length + left ns.length seen ≤ ns.length
theorem gIn_nil (ns : List Nod) : gIn ns [] := by simp [gIn, Cx]
theorem gIn_snoc {ns : List Nod} {x up : Int} {seen : List Int} {n : Nod} (h : gIn ns seen) (hg : gok ns x up seen = some n) : gIn ns (seen ++ [x]) ∧ left ns.length (seen ++ [x]) < left ns.length seen := by
 obtain ⟨h1, h2, -, -⟩ := gok_some hg
 obtain ⟨i, rfl, hi, -⟩ := C9 h1
 have := left_lt hi h2
 unfold gIn at h ⊢
 simp only [List.length_append, List.length_cons, List.length_nil]
 exact ⟨by omega, this⟩
theorem gth_in {ns : List Nod} : ∀ (k : Nat) (x up : Int) (seen : List Int), gIn ns seen → gIn ns (AZ ns k x up seen).2.1 ∧ left ns.length (AZ ns k x up seen).2.1 ≤ left ns.length seen ∧ (AZ ns k x up seen).1.length + seen.length ≤ (AZ ns k x up seen).2.1.length
 | 0, x, up, seen, h => ⟨h, Nat.le_refl _, by simp [AZ]⟩
 | k + 1, x, up, seen, h => by
  unfold AZ
  by_cases hx : x = -1
  ·rw [if_pos hx]; exact ⟨h, Nat.le_refl _, by simp⟩
  ·rw [if_neg hx]
   cases hg : gok ns x up seen with
   | none => exact ⟨h, Nat.le_refl _, by simp⟩
   | some n =>
    obtain ⟨h1, l1⟩ := gIn_snoc h hg
    obtain ⟨h2, l2, n2⟩ := gth_in k n.l x (seen ++ [x]) h1
    obtain ⟨h3, l3, n3⟩ := gth_in k n.r x _ h2
    simp only
    simp only [List.length_append, List.length_cons, List.length_nil] at n2
    split
    ·refine ⟨h3, Nat.le_trans l3 (by omega), ?_⟩
     simp only [List.length_append, List.length_cons]
     omega
    ·exact ⟨h2, Nat.le_trans l2 (by omega), by simp only [List.length_nil]; omega⟩
theorem gth_fuel {ns : List Nod} : ∀ (k j : Nat) (x up : Int) (seen : List Int), gIn ns seen → left ns.length seen < k → left ns.length seen < j → AZ ns k x up seen = AZ ns j x up seen
 | 0, _, _, _, _, _, h, _ => by omega
 | _ + 1, 0, _, _, _, _, _, h => by omega
 | k + 1, j + 1, x, up, seen, hs, hk, hj => by
  unfold AZ
  by_cases hx : x = -1
  ·rw [if_pos hx, if_pos hx]
  ·rw [if_neg hx, if_neg hx]
   cases hg : gok ns x up seen with
   | none => rfl
   | some n =>
    obtain ⟨h1, l1⟩ := gIn_snoc hs hg
    obtain ⟨h2, l2, -⟩ := gth_in k n.l x (seen ++ [x]) h1
    simp only
    have e1 := gth_fuel k j n.l x (seen ++ [x]) h1 (by omega) (by omega)
    have e2 := gth_fuel k j n.r x (AZ ns k n.l x (seen ++ [x])).2.1 h2 (by omega) (by omega)
    rw [← e1, ← e2]
def B3 (ns : List Nod) (x up : Int) (seen : List Int) : List Int × List Int × Bool := AZ ns (ns.length + 1) x up seen
theorem gthN_eq {ns : List Nod} {k : Nat} {x up : Int} {seen : List Int} (h : gIn ns seen) (hk : left ns.length seen < k) : AZ ns k x up seen = B3 ns x up seen := gth_fuel _ _ _ _ _ h hk (by unfold gIn at h; omega)
theorem gthN_step {ns : List Nod} {x up : Int} {seen : List Int} (h : gIn ns seen) : B3 ns x up seen = if x = -1 then ([], seen, true) else match gok ns x up seen with
  | none => ([], seen, false)
  | some n =>
   if (B3 ns n.l x (seen ++ [x])).2.2 then
    ((B3 ns n.l x (seen ++ [x])).1 ++ x :: (B3 ns n.r x (B3 ns n.l x (seen ++ [x])).2.1).1, (B3 ns n.r x (B3 ns n.l x (seen ++ [x])).2.1).2.1, (B3 ns n.r x (B3 ns n.l x (seen ++ [x])).2.1).2.2)
   else ([], (B3 ns n.l x (seen ++ [x])).2.1, false) := by
 show AZ ns (ns.length + 1) x up seen = _
 unfold AZ
 by_cases hx : x = -1
 ·rw [if_pos hx, if_pos hx]
 ·rw [if_neg hx, if_neg hx]
  cases hg : gok ns x up seen with
  | none => rfl
  | some n =>
   obtain ⟨h1, l1⟩ := gIn_snoc h hg
   have hle : left ns.length seen ≤ ns.length := by unfold gIn at h; omega
   have e1 : AZ ns ns.length n.l x (seen ++ [x]) = B3 ns n.l x (seen ++ [x]) := gthN_eq h1 (by omega)
   obtain ⟨h2, l2, -⟩ := gth_in (ns.length + 1) n.l x (seen ++ [x]) h1
   have e2 : AZ ns ns.length n.r x (B3 ns n.l x (seen ++ [x])).2.1 = B3 ns n.r x (B3 ns n.l x (seen ++ [x])).2.1 := gthN_eq h2 (by
    have : left ns.length (B3 ns n.l x (seen ++ [x])).2.1 ≤ left ns.length (seen ++ [x]) := l2
    omega)
   simp only [e1, e2]
inductive BT where
 | nil
 | node (l : BT) (x : Int) (r : BT)
def BT.ord : BT → List Int
 | .nil => []
 | .node l x r => l.ord ++ x :: r.ord
def BT.pre : BT → List Int
 | .nil => []
 | .node l x r => x :: (l.pre ++ r.pre)
def Is (ns : List Nod) : BT → Int → Int → Prop
 | .nil, x, _ => x = -1
 | .node l y r, x, up => y = x ∧ ∃ n, Bk ns x = some n ∧ n.inn = true ∧ n.u = up ∧ Is ns l n.l x ∧ Is ns r n.r x
theorem BT.ord_len : ∀ t : BT, t.ord.length = t.pre.length
 | .nil => rfl
 | .node l x r => by simp only [BT.ord, BT.pre, List.length_append, List.length_cons, BT.ord_len l, BT.ord_len r]; omega
theorem BT.ord_mem {y : Int} : ∀ t : BT, y ∈ t.ord ↔ y ∈ t.pre
 | .nil => Iff.rfl
 | .node l x r => by
  simp only [BT.ord, BT.pre, List.mem_append, List.mem_cons, BT.ord_mem l, BT.ord_mem r]
  constructor
  ·rintro (h | h | h)
   ·exact .inr (.inl h)
   ·exact .inl h
   ·exact .inr (.inr h)
  ·rintro (h | h | h)
   ·exact .inr (.inl h)
   ·exact .inl h
   ·exact .inr (.inr h)
theorem gth_tree {ns : List Nod} : ∀ (k : Nat) (x up : Int) (seen : List Int), (AZ ns k x up seen).2.2 = true → seen.Nodup →
  ∃ t : BT, Is ns t x up ∧ (AZ ns k x up seen).1 = t.ord ∧ (AZ ns k x up seen).2.1 = seen ++ t.pre ∧ (seen ++ t.pre).Nodup
 | 0, x, up, seen, h, _ => by simp [AZ] at h
 | k + 1, x, up, seen, h, hn => by
  unfold AZ at h ⊢
  by_cases hx : x = -1
  ·rw [if_pos hx]
   exact ⟨.nil, hx, rfl, by simp [BT.pre], by simpa [BT.pre] using hn⟩
  ·rw [if_neg hx] at h ⊢
   cases hg : gok ns x up seen with
   | none => rw [hg] at h; cases h
   | some n =>
    rw [hg] at h
    obtain ⟨h1, h2, h3, h4⟩ := gok_some hg
    simp only at h ⊢
    cases ha : (AZ ns k n.l x (seen ++ [x])).2.2 with
    | false => rw [ha] at h; simp at h
    | true =>
     rw [ha] at h
     simp only [if_true] at h ⊢
     have hn1 : (seen ++ [x]).Nodup := by
      refine List.nodup_append.2 ⟨hn, by simp, fun y hy z hz => ?_⟩
      simp only [List.mem_singleton] at hz
      rw [hz]
      intro e; rw [e] at hy
      have : ¬ x ∈ seen := by simpa using h2
      exact this hy
     obtain ⟨tl, i1, o1, p1, d1⟩ := gth_tree k n.l x (seen ++ [x]) ha hn1
     rw [p1] at h ⊢
     obtain ⟨tr, i2, o2, p2, d2⟩ := gth_tree k n.r x _ h d1
     refine ⟨.node tl x tr, ⟨rfl, n, h1, h3, h4, i1, i2⟩, by rw [o1, o2]; rfl, ?_, ?_⟩
     ·rw [p2]; simp [BT.pre]
     ·simpa [BT.pre] using d2
theorem Is.mem {ns : List Nod} {y : Int} : ∀ {t : BT} {x up : Int}, Is ns t x up → y ∈ t.pre → ∃ n, Bk ns y = some n ∧ n.inn = true
 | .nil, _, _, _, h => by cases h
 | .node l z r, x, up, ⟨hz, n, h1, h2, h3, h4, h5⟩, h => by
  subst hz
  simp only [BT.pre, List.mem_cons, List.mem_append] at h
  rcases h with rfl | h | h
  ·exact ⟨n, h1, h2⟩
  ·exact h4.mem h
  ·exact h5.mem h
def BS (ns : List Nod) (x : Int) : Bool := match Bk ns x with
 | some n => n.red
 | none => false
def blkT (ns : List Nod) : BT → Option Nat
 | .nil => some 0
 | .node l x r => match Bk ns x with
  | none => none
  | some n => match blkT ns l, blkT ns r with
   | some a, some b => if a = b ∧ (n.red && (BS ns n.l || BS ns n.r)) = false then some (if n.red then a else a + 1) else none
   | _, _ => none
def BT.deep : BT → Nat
 | .nil => 0
 | .node l _ r => max l.deep r.deep + 1
theorem BT.deep_le : ∀ t : BT, t.deep ≤ t.pre.length
 | .nil => Nat.le_refl _
 | .node l x r => by
  have := BT.deep_le l; have := BT.deep_le r
  simp only [BT.deep, BT.pre, List.length_cons, List.length_append]
  omega
def Cp (ns : List Nod) : Nat → Int → BT
 | 0, _ => .nil
 | k + 1, x => match Bk ns x with
  | none => .nil
  | some n => .node (Cp ns k n.l) x (Cp ns k n.r)
theorem trOf_eq {ns : List Nod} : ∀ (k : Nat) (t : BT) (x up : Int), Is ns t x up → t.deep ≤ k → Cp ns k x = t
 | k, .nil, x, up, h, _ => by
  have hx : x = -1 := h
  subst hx
  cases k with
  | zero => rfl
  | succ k => rfl
 | 0, .node l y r, x, up, _, h => by simp [BT.deep] at h
 | k + 1, .node l y r, x, up, ⟨hz, n, h1, h2, h3, h4, h5⟩, h => by
  subst hz
  simp only [BT.deep] at h
  unfold Cp
  rw [h1]
  simp only
  rw [trOf_eq k l _ _ h4 (by omega), trOf_eq k r _ _ h5 (by omega)]
def Nod.zero (n : Nod) : Bool := !n.inn && (!n.red && (n.v == 0 && (n.l == -1 && (n.r == -1 && n.u == -1))))
def BP (ns : List Nod) (i : Nat) : Bool := match ns[i]? with | some n => n.zero | none => true
def ordO (root : Int) (ns : List Nod) : Option (List Int) :=
 if 64 < ns.length then none else
 if (B3 ns root (-1) []).2.2 && (List.range ns.length).all (fun i : Nat => (B3 ns root (-1) []).2.1.contains (i : Int) || BP ns i)
 then some (B3 ns root (-1) []).1 else none
abbrev Ky := Nat × Int
def BW (v m : Int) : Int := IntKind.wrap .i64 (IntKind.wrap .u64 (v - m))
def BB (m : Nat) (a b : Ky) : Bool := decide (BW a.1 m < BW b.1 m) || (BW a.1 m == BW b.1 m && decide (a.2 < b.2))
theorem lessK_trans {m : Nat} {a b c : Ky} (h1 : BB m a b = true) (h2 : BB m b c = true) : BB m a c = true := by
 simp only [BB, Bool.or_eq_true, Bool.and_eq_true, decide_eq_true_eq, beq_iff_eq] at *
 omega
def kAt (l : List Ky) (i : Nat) : Ky := (l[i]?).getD (0, 0)
def okP (m : Nat) (l : List Ky) (i : Nat) : Bool := (decide (i = 0) || BB m (kAt l (i - 1)) (kAt l i)) && (List.range i).all fun k => (kAt l k).2 != (kAt l i).2
def okD (m : Nat) (l : List Ky) (i : Nat) : Bool := (List.range i).all fun k => BB m (kAt l k) (kAt l i) && ((kAt l k).2 != (kAt l i).2)
def sortedK (m : Nat) (l : List Ky) : Bool := (List.range l.length).all (okP m l)
theorem chain_less {m n : Nat} {f : Nat → Ky} (h : ∀ i, i < n → 0 < i → BB m (f (i - 1)) (f i) = true) : ∀ i k, k < i → i < n → BB m (f k) (f i) = true
 | 0, k, hk, _ => by omega
 | i + 1, k, hk, hi => by
  have h1 : BB m (f i) (f (i + 1)) = true := h (i + 1) hi (by omega)
  by_cases e : k = i
  ·subst e; exact h1
  ·exact lessK_trans (chain_less h i k (by omega) (by omega)) h1
theorem sortedK_eq (m : Nat) (l : List Ky) : sortedK m l = (List.range l.length).all (okD m l) := by
 rw [Bool.eq_iff_iff]
 simp only [sortedK, List.all_eq_true, List.mem_range, okP, okD, Bool.and_eq_true, Bool.or_eq_true, decide_eq_true_eq]
 constructor
 ·intro h i hi k hk
  exact ⟨chain_less (n := l.length) (f := kAt l) (fun j hj h0 => (h j hj).1.resolve_left (by omega)) i k hk hi, (h i hi).2 k hk⟩
 ·intro h i hi
  refine ⟨?_, fun k hk => (h i hi k hk).2⟩
  by_cases h0 : i = 0
  ·exact .inl h0
  ·exact .inr (h i hi (i - 1) (by omega)).1
def igHd (rows : A8) (x i : Int) : St := { σ := Ap 18 [(0, .d (.mn 1 rows)), (1, vi x), (5, vi i)], h := {} }
def igOut : St := { σ := Ap 18 [], h := {} }
def igHit : St := { σ := Ap 18 [(4, vb true)], h := {} }
theorem ig_exit (rows : A8) (x i : Int) : sM C0 234 0 (igHd rows x i) [(A1 234 9, .b false)] [] = some ((.exit 0, igOut), [], [decide (i < (rows.length : Int)) = false]) := by kernel_rfl
theorem ig_hit (rows : A8) (x i y : Int) : sM C0 234 0 (igHd rows x i) [(A1 234 9, .b true), (A1 234 14, .row [di y]), (A1 234 17, .b true)] [4] =
  some ((.ret, igHit), [], [decide (i < (rows.length : Int)) = true, 0 ≤ i ∧ rows[i.toNat]? = some [di y], (y == x) = true]) := by kernel_rfl
theorem ig_step (rows : A8) (x i i' y : Int) (X : X) (st : St) : AY C0 Ab 60 (Lp 234 0 (igHd rows x i)) [(A1 234 9, .b true), (A1 234 14, .row [di y]), (A1 234 17, .b false), (A1 234 11, .int i'), (A1 234 8001, .loop [0, 1, 5] X st)] =
  some (.code X st, [], [decide (i < (rows.length : Int)) = true, 0 ≤ i ∧ rows[i.toNat]? = some [di y], (y == x) = false, IntKind.wrap .i64 (i + 1) = i', Ev C0 Ab (Lp 234 0 (igHd rows x i')) (.code X st)]) := by kernel_rfl
def igRes (t : Bool) : X × St := if t then (.ret, igHit) else (.exit 0, igOut)
theorem ig_loop (x : Int) (l : List Int) (hl : l.length < 2 ^ 30) : ∀ (d i : Nat), i + d = l.length → Ev C0 Ab (Lp 234 0 (igHd (A6 l) x i)) (.code (igRes ((l.drop i).contains x)).1 (igRes ((l.drop i).contains x)).2)
 | 0, i, h => by
  have : l.drop i = [] := List.drop_eq_nil_of_le (by omega)
  rw [this]
  exact Ac (ig_exit _ _ _) (A0 (by rw [Ax]; exact dge (by omega)) A2)
 | d + 1, i, h => by
  have hi : i < l.length := by omega
  have hd : l.drop i = l[i] :: l.drop (i + 1) := List.drop_eq_getElem_cons hi
  have hr : 0 ≤ (i : Int) ∧ (A6 l)[((i : Int)).toNat]? = some [di l[i]] := ⟨by omega, B2 (List.getElem?_eq_getElem hi)⟩
  have hlt : decide ((i : Int) < ((A6 l).length : Int)) = true := by rw [Ax]; exact dlt hi
  rw [hd]
  by_cases he : l[i] = x
  ·have : (l[i] :: l.drop (i + 1)).contains x = true := by simp [he]
   rw [this]
   exact Ac (ig_hit _ _ _ _) (A0 hlt (A0 hr (A0 (by simp [he]) A2)))
  ·have : (l[i] :: l.drop (i + 1)).contains x = (l.drop (i + 1)).contains x := by
    rw [List.contains_cons]
    have : (x == l[i]) = false := by simp; exact fun h => he h.symm
    rw [this, Bool.false_or]
   rw [this]
   exact Aa _ _ _ _ _ _ (ig_step _ _ _ ((i + 1 : Nat) : Int) _ _ _) (A0 hlt (A0 hr (A0 (by simpa using he) (A0 (Ag (by omega)) (A0 (ig_loop x l hl d (i + 1) (by omega)) A2)))))
theorem ig_call (rows : A8) (x : Int) : sV C0 234 [.one (.mn 1 rows), A5 x] [(A1 234 8001, .loop [0, 1, 5] (igRes false).1 (igRes false).2)] = some ([A3 false], [], [Ev C0 Ab (Lp 234 0 (igHd rows x 0)) (.code (igRes false).1 (igRes false).2)]) := by kernel_rfl
theorem ig_callT (rows : A8) (x : Int) : sV C0 234 [.one (.mn 1 rows), A5 x] [(A1 234 8001, .loop [0, 1, 5] (igRes true).1 (igRes true).2)] = some ([A3 true], [], [Ev C0 Ab (Lp 234 0 (igHd rows x 0)) (.code (igRes true).1 (igRes true).2)]) := by kernel_rfl
def igS : Spec
 | [.one (.mn 1 rows), .one (.v (.int .i64 x))] => match Ae intR rows with
  | some l => if l.length < 2 ^ 30 then some [A3 (l.contains x)] else none
  | none => none
 | _ => none
theorem ig_sat : AJ C0 234 igS := Af (O := Ab) BN (fun _ _ h => h.elim) Bm fun ps rs hs => by
 unfold igS at hs
 split at hs
 ·rename_i rows x
  split at hs
  ·rename_i l hl
   split at hs
   ·rename_i hb
    cases hs
    have := intsR_eq hl
    subst this
    have hk := ig_loop x l hb l.length 0 (by omega)
    simp only [List.drop_zero] at hk
    cases hc : l.contains x with
    | false => rw [hc] at hk; exact A4 (ig_call _ _) (A0 hk A2)
    | true => rw [hc] at hk; exact A4 (ig_callT _ _) (A0 hk A2)
   ·cases hs
  ·cases hs
 ·cases hs
noncomputable def CG0 : Ctx := Ad C0 234 igS
theorem hPG0 : Aw CG0 := A7 BN (ig_sat.ctx rfl rfl) (by kernel_rfl)
def gaS (k : Nat) : Spec
 | [.agg [.v (.int .i64 _), .mn 6 rows], .one (.v (.int .i64 x)), .one (.v (.int .i64 up)), .one d] => match Ae nodR rows, intM d with
  | some ns, some seen => if ns.length ≤ 64 ∧ seen.length + left ns.length seen ≤ ns.length ∧ left ns.length seen < k then
    some [.one (.mn 1 (A6 (B3 ns x up seen).1)), .one (.mn 1 (A6 (B3 ns x up seen).2.1)), A3 (B3 ns x up seen).2.2] else none
  | _, _ => none
 | _ => none
noncomputable def CGk (k : Nat) : Ctx := Ad CG0 222 (gaS k)
def gaA (root x up : Int) (rows ways : A8) : List PV := [.agg [di root, .mn 6 rows], A5 x, A5 up, .one (.mn 1 ways)]
theorem ga_end (k : Nat) (root up : Int) (rows ways : A8) : Cs (CGk k) Ab 60 222 (gaA root (-1) up rows ways) [] = some ([.one dnil, .one (.mn 1 ways), A3 true], [], []) := by kernel_rfl
theorem ga_neg (k : Nat) (root x up : Int) (rows ways : A8) : Cs (CGk k) Ab 60 222 (gaA root x up rows ways) [(A1 222 19, .b false), (A1 222 22, .b true)] = some ([.one dnil, .one (.mn 1 ways), A3 false], [], [(x == -1) = false, decide (x < 0) = true]) := by kernel_rfl
theorem ga_big (k : Nat) (root x up : Int) (rows ways : A8) : Cs (CGk k) Ab 60 222 (gaA root x up rows ways) [(A1 222 19, .b false), (A1 222 22, .b false), (A1 222 28, .b true)] = some ([.one dnil, .one (.mn 1 ways), A3 false], [], [(x == -1) = false, decide (x < 0) = false, decide (x ≥ (rows.length : Int)) = true]) := by kernel_rfl
theorem ga_met (k : Nat) (root x up : Int) (rows ways : A8) : Cs (CGk k) Ab 60 222 (gaA root x up rows ways) [(A1 222 19, .b false), (A1 222 22, .b false), (A1 222 28, .b false), (A1 222 33, .prim [A3 true])] =
  some ([.one dnil, .one (.mn 1 ways), A3 false], [], [(x == -1) = false, decide (x < 0) = false, decide (x ≥ (rows.length : Int)) = false, igS [.one (.mn 1 ways), A5 x] = some [A3 true]]) := by kernel_rfl
def gaScr (a r v : Bool) (nv nl nr nu : Int) (l : Ah) : Ah := (A1 222 19, .b false) :: (A1 222 22, .b false) :: (A1 222 28, .b false) :: (A1 222 33, .prim [A3 false]) :: (A1 222 39, .row [db a, db r, du nv, di nl, di nr, di nu]) :: l
def gaOb (x : Int) (rows ways : A8) (a r : Bool) (nv nl nr nu : Int) (l : List Prop) : List Prop := ((x == -1) = false) :: (decide (x < 0) = false) :: (decide (x ≥ (rows.length : Int)) = false) :: (igS [.one (.mn 1 ways), A5 x] = some [A3 false]) :: (0 ≤ x ∧ rows[x.toNat]? = some [db a, db r, du nv, di nl, di nr, di nu]) :: l
theorem ga_out (k : Nat) (root x up : Int) (rows ways : A8) (r : Bool) (nv nl nr nu : Int) : Cs (CGk k) Ab 60 222 (gaA root x up rows ways) (gaScr false r false nv nl nr nu []) =
  some ([.one dnil, .one (.mn 1 ways), A3 false], [], gaOb x rows ways false r nv nl nr nu []) := by kernel_rfl
theorem ga_up (k : Nat) (root x up : Int) (rows ways : A8) (r : Bool) (nv nl nr nu : Int) : Cs (CGk k) Ab 60 222 (gaA root x up rows ways) (gaScr true r false nv nl nr nu [(A1 222 48, .b true)]) =
  some ([.one dnil, .one (.mn 1 ways), A3 false], [], gaOb x rows ways true r nv nl nr nu [(nu != up) = true]) := by kernel_rfl
theorem ga_ln (k : Nat) (root x up : Int) (rows ways ls ss : A8) (r : Bool) (nv nl nr nu : Int) : Cs (CGk k) Ab 60 222 (gaA root x up rows ways) (gaScr true r false nv nl nr nu [(A1 222 48, .b false), (A1 222 57, .app true), (A1 222 60, .app false), (A1 222 61, .prim [.one (.mn 1 ls), .one (.mn 1 ss), A3 false])]) =
  some ([.one dnil, .one (.mn 1 ss), A3 false], [], gaOb x rows ways true r nv nl nr nu [(nu != up) = false, ways.isEmpty = true, false = false ∧ Am 0 1 8, gaS k [.agg [di root, .mn 6 rows], A5 nl, A5 x, .one (.sl 1 false ([] ++ [[di x]]))] = some [.one (.mn 1 ls), .one (.mn 1 ss), A3 false]]) := by kernel_rfl
theorem ga_rnn (k : Nat) (root x up : Int) (rows ways ls ss rr tt : A8) (r z e : Bool) (nv nl nr nu : Int) : Cs (CGk k) Ab 60 222 (gaA root x up rows ways) (gaScr true r false nv nl nr nu [(A1 222 48, .b false), (A1 222 57, .app true), (A1 222 60, .app false), (A1 222 61, .prim [.one (.mn 1 ls), .one (.mn 1 ss), A3 true]), (A1 222 74, .prim [.one (.mn 1 rr), .one (.mn 1 tt), A3 z]), (A1 222 79, .app true), (A1 222 82, .app false), (A1 222 84, .app e)]) =
  some ([.one (.sl 1 false (([] ++ [[di x]]) ++ rr)), .one (.mn 1 tt), A3 z], [], gaOb x rows ways true r nv nl nr nu [(nu != up) = false, ways.isEmpty = true, false = false ∧ Am 0 1 8, gaS k [.agg [di root, .mn 6 rows], A5 nl, A5 x, .one (.sl 1 false ([] ++ [[di x]]))] = some [.one (.mn 1 ls), .one (.mn 1 ss), A3 true],
   gaS k [.agg [di root, .mn 6 rows], A5 nr, A5 x, .one (.mn 1 ss)] = some [.one (.mn 1 rr), .one (.mn 1 tt), A3 z], ls.isEmpty = true, false = false ∧ Am 0 1 8, rr.isEmpty = e ∧ (1 = 1 ∧ Am ([] ++ [[di x]]).length rr.length 8)]) := by kernel_rfl
theorem ga_rns (k : Nat) (root x up : Int) (rows ways ls ss rr tt : A8) (r z e : Bool) (nv nl nr nu : Int) : Cs (CGk k) Ab 60 222 (gaA root x up rows ways) (gaScr true r false nv nl nr nu [(A1 222 48, .b false), (A1 222 57, .app true), (A1 222 60, .app false), (A1 222 61, .prim [.one (.mn 1 ls), .one (.mn 1 ss), A3 true]), (A1 222 74, .prim [.one (.mn 1 rr), .one (.mn 1 tt), A3 z]), (A1 222 79, .app false), (A1 222 82, .app false), (A1 222 84, .app e)]) =
  some ([.one (.sl 1 false (([] ++ ls ++ [[di x]]) ++ rr)), .one (.mn 1 tt), A3 z], [], gaOb x rows ways true r nv nl nr nu [(nu != up) = false, ways.isEmpty = true, false = false ∧ Am 0 1 8, gaS k [.agg [di root, .mn 6 rows], A5 nl, A5 x, .one (.sl 1 false ([] ++ [[di x]]))] = some [.one (.mn 1 ls), .one (.mn 1 ss), A3 true],
   gaS k [.agg [di root, .mn 6 rows], A5 nr, A5 x, .one (.mn 1 ss)] = some [.one (.mn 1 rr), .one (.mn 1 tt), A3 z], ls.isEmpty = false ∧ Am 0 ls.length 8, false = false ∧ (1 = 1 ∧ Am ([] ++ ls).length 1 8), rr.isEmpty = e ∧ (1 = 1 ∧ Am ([] ++ ls ++ [[di x]]).length rr.length 8)]) := by kernel_rfl
theorem ga_ls (k : Nat) (root x up : Int) (rows ways ls ss : A8) (r : Bool) (nv nl nr nu : Int) : Cs (CGk k) Ab 60 222 (gaA root x up rows ways) (gaScr true r false nv nl nr nu [(A1 222 48, .b false), (A1 222 57, .app false), (A1 222 60, .app false), (A1 222 61, .prim [.one (.mn 1 ls), .one (.mn 1 ss), A3 false])]) =
  some ([.one dnil, .one (.mn 1 ss), A3 false], [], gaOb x rows ways true r nv nl nr nu [(nu != up) = false, ways.isEmpty = false ∧ Am 0 ways.length 8, false = false ∧ (1 = 1 ∧ Am ([] ++ ways).length 1 8), gaS k [.agg [di root, .mn 6 rows], A5 nl, A5 x, .one (.sl 1 false ([] ++ ways ++ [[di x]]))] = some [.one (.mn 1 ls), .one (.mn 1 ss), A3 false]]) := by kernel_rfl
theorem ga_rsn (k : Nat) (root x up : Int) (rows ways ls ss rr tt : A8) (r z e : Bool) (nv nl nr nu : Int) : Cs (CGk k) Ab 60 222 (gaA root x up rows ways) (gaScr true r false nv nl nr nu [(A1 222 48, .b false), (A1 222 57, .app false), (A1 222 60, .app false), (A1 222 61, .prim [.one (.mn 1 ls), .one (.mn 1 ss), A3 true]), (A1 222 74, .prim [.one (.mn 1 rr), .one (.mn 1 tt), A3 z]), (A1 222 79, .app true), (A1 222 82, .app false), (A1 222 84, .app e)]) =
  some ([.one (.sl 1 false (([] ++ [[di x]]) ++ rr)), .one (.mn 1 tt), A3 z], [], gaOb x rows ways true r nv nl nr nu [(nu != up) = false, ways.isEmpty = false ∧ Am 0 ways.length 8, false = false ∧ (1 = 1 ∧ Am ([] ++ ways).length 1 8), gaS k [.agg [di root, .mn 6 rows], A5 nl, A5 x, .one (.sl 1 false ([] ++ ways ++ [[di x]]))] = some [.one (.mn 1 ls), .one (.mn 1 ss), A3 true],
   gaS k [.agg [di root, .mn 6 rows], A5 nr, A5 x, .one (.mn 1 ss)] = some [.one (.mn 1 rr), .one (.mn 1 tt), A3 z], ls.isEmpty = true, false = false ∧ Am 0 1 8, rr.isEmpty = e ∧ (1 = 1 ∧ Am ([] ++ [[di x]]).length rr.length 8)]) := by kernel_rfl
theorem ga_rss (k : Nat) (root x up : Int) (rows ways ls ss rr tt : A8) (r z e : Bool) (nv nl nr nu : Int) : Cs (CGk k) Ab 60 222 (gaA root x up rows ways) (gaScr true r false nv nl nr nu [(A1 222 48, .b false), (A1 222 57, .app false), (A1 222 60, .app false), (A1 222 61, .prim [.one (.mn 1 ls), .one (.mn 1 ss), A3 true]), (A1 222 74, .prim [.one (.mn 1 rr), .one (.mn 1 tt), A3 z]), (A1 222 79, .app false), (A1 222 82, .app false), (A1 222 84, .app e)]) =
  some ([.one (.sl 1 false (([] ++ ls ++ [[di x]]) ++ rr)), .one (.mn 1 tt), A3 z], [], gaOb x rows ways true r nv nl nr nu [(nu != up) = false, ways.isEmpty = false ∧ Am 0 ways.length 8, false = false ∧ (1 = 1 ∧ Am ([] ++ ways).length 1 8), gaS k [.agg [di root, .mn 6 rows], A5 nl, A5 x, .one (.sl 1 false ([] ++ ways ++ [[di x]]))] = some [.one (.mn 1 ls), .one (.mn 1 ss), A3 true],
   gaS k [.agg [di root, .mn 6 rows], A5 nr, A5 x, .one (.mn 1 ss)] = some [.one (.mn 1 rr), .one (.mn 1 tt), A3 z], ls.isEmpty = false ∧ Am 0 ls.length 8, false = false ∧ (1 = 1 ∧ Am ([] ++ ls).length 1 8), rr.isEmpty = e ∧ (1 = 1 ∧ Am ([] ++ ls ++ [[di x]]).length rr.length 8)]) := by kernel_rfl
theorem nodR_cs {n : Nod} (h : n.v < 2 ^ 64) : nodR n.cs = some n := by
 have : (0 : Int) ≤ (n.v : Int) ∧ (n.v : Int) < 2 ^ 64 := ⟨by omega, by exact_mod_cast h⟩
 simp only [nodR, Nod.cs, db, du, di]
 rw [if_pos this, Int.toNat_natCast]
theorem C8 {l : List Nod} (h : ∀ n ∈ l, n.v < 2 ^ 64) : Ae nodR (A9 l) = some l := by
 induction l with
 | nil => rfl
 | cons a l ih =>
  have e := ih (fun n hn => h n (List.mem_cons_of_mem _ hn))
  have e2 : Ae nodR (l.map Nod.cs) = some l := e
  simp only [A9, List.map_cons, Ae, nodR_cs (h a (List.mem_cons_self ..)), e2]
theorem gaS_at {k : Nat} {root x up : Int} {ns : List Nod} {d : DV} {seen : List Int} (hv : ∀ n ∈ ns, n.v < 2 ^ 64) (hd : intM d = some seen) (h1 : ns.length ≤ 64) (h2 : gIn ns seen) (h3 : left ns.length seen < k) :
  gaS k [.agg [di root, .mn 6 (A9 ns)], A5 x, A5 up, .one d] = some [.one (.mn 1 (A6 (B3 ns x up seen).1)), .one (.mn 1 (A6 (B3 ns x up seen).2.1)), A3 (B3 ns x up seen).2.2] := by
 simp only [gaS, di, A5, C8 hv, hd]
 rw [if_pos ⟨h1, h2, h3⟩]
theorem intM_mn (l : List Int) : intM (.mn 1 (A6 l)) = some l := by simp only [intM, mnR_mn]; exact Br l
theorem intM_sl (f : Bool) (l : List Int) : intM (.sl 1 f (A6 l)) = some l := by simp only [intM, mnR_sl]; exact Br l
theorem intM_eq {d : DV} {l : List Int} (h : intM d = some l) : DW d (.mn 1 (A6 l)) := by
 unfold intM at h
 split at h
 ·rename_i rows hr
  have := intsR_eq h
  subst this
  exact mnR_dw hr
 ·cases h
theorem irows_empty (l : List Int) : (A6 l).isEmpty = l.isEmpty := by cases l <;> rfl
theorem fits8 {n m : Nat} (hn : n ≤ 1000) (hm : m ≤ 1000) : Am n m 8 := by unfold Am; omega
theorem dw_rows (l : List Int) : DW (if l.isEmpty then (dnil : DV) else .sl 1 false (A6 l)) (.mn 1 (A6 l)) := by
 cases l with
 | nil => exact .nil 1
 | cons a l => exact .row 1 false _
theorem ga_sat : ∀ k : Nat, AJ C0 222 (gaS k)
 | 0 => by
  intro ps rs hs
  exfalso
  unfold gaS at hs
  split at hs
  ·split at hs
   ·split at hs
    ·rename_i hc; exact absurd hc.2.2 (Nat.not_lt_zero _)
    ·cases hs
   ·cases hs
  ·cases hs
 | k + 1 => by
  have hP : Aw (CGk k) := A7 hPG0 ((ga_sat k).ctx rfl rfl) (by kernel_rfl)
  refine AJ.ctx (C := CGk k) rfl rfl (Bh (O := Ab) hP (fun _ _ h => h.elim) Bm fun ps rs hs => ?_)
  unfold gaS at hs
  split at hs
  ·rename_i root rows x up d
   split at hs
   ·rename_i ns seen h1 h2
    split at hs
    ·rename_i hc
     obtain ⟨h64, hin, hk⟩ := hc
     cases hs
     obtain ⟨rfl, hv⟩ := nrows_of h1
     have hlen : seen.length ≤ 64 := by omega
     have hin' : gIn ns seen := hin
     refine ⟨gaA root x up (A9 ns) (A6 seen), ?_⟩
     have hw : WL [.agg [.v (.int .i64 root), .mn 6 (A9 ns)], .one (.v (.int .i64 x)), .one (.v (.int .i64 up)), .one d] (gaA root x up (A9 ns) (A6 seen)) :=
      .cons (.same _) (.cons (.same _) (.cons (.same _) (.cons (.one (intM_eq h2)) .nil)))
     have hst := gthN_step (x := x) (up := up) hin'
     by_cases hx : x = -1
     ·rw [if_pos hx] at hst
      subst hx
      refine ⟨_, hw, ?_, A4 (ga_end k root up _ _) A2⟩
      rw [hst]
      exact .cons (.one (.nil 1)) (.cons (.same _) (.cons (.same _) .nil))
     ·rw [if_neg hx] at hst
      have b0 : (x == -1) = false := by simpa using hx
      have bad : gok ns x up seen = none → WL [.one dnil, .one (.mn 1 (A6 seen)), A3 false] [.one (.mn 1 (A6 (B3 ns x up seen).1)), .one (.mn 1 (A6 (B3 ns x up seen).2.1)), A3 (B3 ns x up seen).2.2] := fun hg => by
       rw [hst, hg]
       exact .cons (.one (.nil 1)) (.cons (.same _) (.cons (.same _) .nil))
      by_cases hx0 : x < 0
      ·have hg : gok ns x up seen = none := by simp [gok, Bk, hx0]
       exact ⟨_, hw, bad hg, A4 (ga_neg k root x up _ _) (A0 b0 (A0 (decide_eq_true hx0) A2))⟩
      ·have b1 : decide (x < 0) = false := decide_eq_false hx0
       obtain ⟨i, rfl⟩ := Int.eq_ofNat_of_zero_le (Int.not_lt.1 hx0)
       have hna : Bk ns (i : Int) = ns[i]? := by unfold Bk; rw [if_neg hx0, Int.toNat_natCast]
       by_cases hi : i < ns.length
       ·have b2 : decide ((i : Int) ≥ ((A9 ns).length : Int)) = false := decide_eq_false (by rw [Ay]; omega)
        have hin1 : igS [.one (.mn 1 (A6 seen)), A5 (i : Int)] = some [A3 (seen.contains (i : Int))] := by
         simp only [igS, A5, Br]
         rw [if_pos (by omega)]
        cases hm : seen.contains (i : Int) with
        | true =>
         rw [hm] at hin1
         have hg : gok ns (i : Int) up seen = none := by unfold gok; rw [hna, List.getElem?_eq_getElem hi]; simp only [hm, Bool.true_or, if_true]
         exact ⟨_, hw, bad hg, A4 (ga_met k root _ up _ _) (A0 b0 (A0 b1 (A0 b2 (A0 hin1 A2))))⟩
        | false =>
         rw [hm] at hin1
         have hr0 : 0 ≤ (i : Int) ∧ (A9 ns)[((i : Int)).toNat]? = some (ns[i]).cs := ⟨by omega, AS (List.getElem?_eq_getElem hi)⟩
         have hgo : gok ns (i : Int) up seen = if (!ns[i].inn || ns[i].u != up) = true then none else some ns[i] := by
          unfold gok; rw [hna, List.getElem?_eq_getElem hi]; simp only [hm, Bool.false_or]
         have hnv : ns[i].v < 2 ^ 64 := hv _ (List.getElem_mem hi)
         generalize ns[i] = n at hr0 hgo hnv
         obtain ⟨a, r, nv, nl, nr, nu⟩ := n
         have ob : ∀ {l : List Prop}, AI l → AI (gaOb (i : Int) (A9 ns) (A6 seen) a r nv nl nr nu l) := fun h =>
          A0 b0 (A0 b1 (A0 b2 (A0 hin1 (A0 hr0 h))))
         cases ha : a with
         | false =>
          subst ha
          exact ⟨_, hw, bad (by rw [hgo]; rfl), A4 (ga_out k root _ up _ _ r nv nl nr nu) (ob A2)⟩
         | true =>
          subst ha
          by_cases hu : nu = up
          ·subst hu
           have b3 : (nu != nu) = false := by simp
           have hg : gok ns (i : Int) nu seen = some ⟨true, r, nv, nl, nr, nu⟩ := by rw [hgo]; simp
           rw [hg] at hst
           simp only at hst
           obtain ⟨hin2, hl2⟩ := gIn_snoc hin' hg
           have hin3 := gth_in (ns.length + 1) nl (i : Int) (seen ++ [(i : Int)]) hin2
           obtain ⟨hin4, hl4, hn4⟩ := hin3
           have hin4' : gIn ns (B3 ns nl (i : Int) (seen ++ [(i : Int)])).2.1 := hin4
           have hl4' : left ns.length (B3 ns nl (i : Int) (seen ++ [(i : Int)])).2.1 ≤ left ns.length (seen ++ [(i : Int)]) := hl4
           have hn4' : (B3 ns nl (i : Int) (seen ++ [(i : Int)])).1.length + (seen ++ [(i : Int)]).length ≤ (B3 ns nl (i : Int) (seen ++ [(i : Int)])).2.1.length := hn4
           obtain ⟨hin5, hl5, hn5⟩ := gth_in (ns.length + 1) nr (i : Int) _ hin4'
           have hn5' : (B3 ns nr (i : Int) (B3 ns nl (i : Int) (seen ++ [(i : Int)])).2.1).1.length + (B3 ns nl (i : Int) (seen ++ [(i : Int)])).2.1.length ≤ (B3 ns nr (i : Int) (B3 ns nl (i : Int) (seen ++ [(i : Int)])).2.1).2.1.length := hn5
           have hin5' : gIn ns (B3 ns nr (i : Int) (B3 ns nl (i : Int) (seen ++ [(i : Int)])).2.1).2.1 := hin5
           have hc1 := gaS_at (k := k) (root := root) (x := nl) (up := (i : Int)) hv (intM_sl false (seen ++ [(i : Int)])) h64 hin2 (by omega)
           have hc2 := gaS_at (k := k) (root := root) (x := nr) (up := (i : Int)) hv (intM_mn (B3 ns nl (i : Int) (seen ++ [(i : Int)])).2.1) h64 hin4' (by omega)
           rw [← irows_snoc] at hc1
           generalize B3 ns nl (i : Int) (seen ++ [(i : Int)]) = A at hst hc1 hc2 hn4' hn5' hin5' hin4'
           generalize B3 ns nr (i : Int) A.2.1 = B at hst hc2 hn5' hin5'
           obtain ⟨al, as1, az⟩ := A
           obtain ⟨bl, bs, bz⟩ := B
           simp only at hst hc1 hc2 hn4' hn5' hin5' hin4'
           unfold gIn at hin4' hin5'
           have f1 : Am 0 (A6 seen).length 8 := fits8 (by omega) (by rw [Ax]; omega)
           have f2 : Am ([] ++ A6 seen).length 1 8 := fits8 (by rw [List.nil_append, Ax]; omega) (by omega)
           have f3 : Am 0 (A6 al).length 8 := fits8 (by omega) (by rw [Ax]; omega)
           have f4 : Am ([] ++ A6 al).length 1 8 := fits8 (by rw [List.nil_append, Ax]; omega) (by omega)
           have f5 : Am 0 1 8 := fits8 (by omega) (by omega)
           have f6 : Am ([] ++ A6 al ++ [[di (i : Int)]]).length (A6 bl).length 8 := fits8 (by simp [Ax]; omega) (by rw [Ax]; omega)
           have f7 : Am ([] ++ [[di (i : Int)]]).length (A6 bl).length 8 := fits8 (by simp) (by rw [Ax]; omega)
           cases haz : az with
           | false =>
            subst haz
            simp only [Bool.false_eq_true, if_false] at hst
            rw [hst]
            cases seen with
            | nil => exact ⟨_, hw, .cons (.one (.nil 1)) (.cons (.same _) (.cons (.same _) .nil)), A4 (ga_ln k root _ nu _ _ _ _ r nv nl nr nu) (ob (A0 b3 (A0 rfl (A0 ⟨rfl, f5⟩ (A0 hc1 A2)))))⟩
            | cons s sl => exact ⟨_, hw, .cons (.one (.nil 1)) (.cons (.same _) (.cons (.same _) .nil)), A4 (ga_ls k root _ nu _ _ _ _ r nv nl nr nu) (ob (A0 b3 (A0 ⟨rfl, f1⟩ (A0 ⟨rfl, rfl, f2⟩ (A0 hc1 A2)))))⟩
           | true =>
            subst haz
            simp only [if_true] at hst
            rw [hst]
            have er : A6 (al ++ (i : Int) :: bl) = ([] ++ A6 al ++ [[di (i : Int)]]) ++ A6 bl := by simp [A6]
            cases seen with
            | nil => cases al with
             | nil =>
              refine ⟨_, hw, ?_, A4 (ga_rnn k root _ nu _ _ _ _ (A6 bl) (A6 bs) r bz _ nv nl nr nu) (ob (A0 b3 (A0 rfl (A0 ⟨rfl, f5⟩ (A0 hc1 (A0 hc2 (A0 rfl (A0 ⟨rfl, f5⟩ (A0 ⟨rfl, rfl, f7⟩ A2)))))))))⟩
              exact .cons (.one (.row 1 false _)) (.cons (.same _) (.cons (.same _) .nil))
             | cons c cl =>
              refine ⟨_, hw, ?_, A4 (ga_rns k root _ nu _ _ _ _ (A6 bl) (A6 bs) r bz _ nv nl nr nu) (ob (A0 b3 (A0 rfl (A0 ⟨rfl, f5⟩ (A0 hc1 (A0 hc2 (A0 ⟨rfl, f3⟩ (A0 ⟨rfl, rfl, f4⟩ (A0 ⟨rfl, rfl, f6⟩ A2)))))))))⟩
              rw [er]
              exact .cons (.one (.row 1 false _)) (.cons (.same _) (.cons (.same _) .nil))
            | cons s sl => cases al with
             | nil =>
              refine ⟨_, hw, ?_, A4 (ga_rsn k root _ nu _ _ _ _ (A6 bl) (A6 bs) r bz _ nv nl nr nu) (ob (A0 b3 (A0 ⟨rfl, f1⟩ (A0 ⟨rfl, rfl, f2⟩ (A0 hc1 (A0 hc2 (A0 rfl (A0 ⟨rfl, f5⟩ (A0 ⟨rfl, rfl, f7⟩ A2)))))))))⟩
              exact .cons (.one (.row 1 false _)) (.cons (.same _) (.cons (.same _) .nil))
             | cons c cl =>
              refine ⟨_, hw, ?_, A4 (ga_rss k root _ nu _ _ _ _ (A6 bl) (A6 bs) r bz _ nv nl nr nu) (ob (A0 b3 (A0 ⟨rfl, f1⟩ (A0 ⟨rfl, rfl, f2⟩ (A0 hc1 (A0 hc2 (A0 ⟨rfl, f3⟩ (A0 ⟨rfl, rfl, f4⟩ (A0 ⟨rfl, rfl, f6⟩ A2)))))))))⟩
              rw [er]
              exact .cons (.one (.row 1 false _)) (.cons (.same _) (.cons (.same _) .nil))
          ·have hg : gok ns (i : Int) up seen = none := by
            rw [hgo]
            have : (nu != up) = true := by simpa using hu
            simp [this]
           exact ⟨_, hw, bad hg, A4 (ga_up k root _ up _ _ r nv nl nr nu) (ob (A0 (by simpa using hu) A2))⟩
       ·have hg : gok ns (i : Int) up seen = none := by
         unfold gok
         rw [hna, List.getElem?_eq_none (by omega)]
        exact ⟨_, hw, bad hg, A4 (ga_big k root _ up _ _) (A0 b0 (A0 b1 (A0 (decide_eq_true (by rw [Ay]; omega)) A2)))⟩
    ·cases hs
   ·cases hs
  ·cases hs
theorem gather_sat : AJ C0 222 (gaS 65) := ga_sat 65
theorem left_ge_one (n : Nat) (out : List Int) (x : Int) : left n out ≤ left n (out ++ [x]) + 1 := by
 have e : ((List.range n).filter fun i : Nat => !(out ++ [x]).contains (i : Int)) = ((List.range n).filter fun i : Nat => !out.contains (i : Int)).filter fun i : Nat => !((i : Int) == x) := by
  rw [List.filter_filter]
  congr 1
  funext i
  have hx : ([x] : List Int).contains (i : Int) = ((i : Int) == x) := by
   by_cases h : (i : Int) = x <;> simp [h]
  simp only [List.contains_append, hx, Bool.not_or]
  exact Bool.and_comm _ _
 unfold left
 rw [e]
 generalize hL : ((List.range n).filter fun i : Nat => !out.contains (i : Int)) = L
 have hn : L.Nodup := by rw [← hL]; exact List.Pairwise.filter _ List.nodup_range
 by_cases hx : 0 ≤ x
 ·obtain ⟨k, rfl⟩ := Int.eq_ofNat_of_zero_le hx
  have h1 : (L.filter fun i : Nat => !((i : Int) == (k : Int))) = L.erase k := by
   rw [hn.erase_eq_filter]
   congr 1
   funext i
   by_cases h : i = k
   ·subst h; simp
   ·have : ¬ (i : Int) = (k : Int) := by omega
    have h2 : (i != k) = true := by simpa using h
    rw [h2]; simpa using this
  rw [h1, List.length_erase]
  split <;> omega
 ·have h1 : (L.filter fun i : Nat => !((i : Int) == x)) = L := List.filter_eq_self.2 fun i _ => by
   have : ¬ (i : Int) = x := by omega
   simpa using this
  rw [h1]; omega
theorem left_ge (n : Nat) : ∀ out : List Int, n ≤ out.length + left n out := fun out => by
 have h : ∀ (k : Nat), k ≤ out.length → n ≤ k + left n (out.take k) := by
  intro k
  induction k with
  | zero => intro _; rw [List.take_zero, Cx]; omega
  | succ k ih =>
   intro hk
   have h1 := ih (by omega)
   have h2 := left_ge_one n (out.take k) (out[k]'(by omega))
   rw [← List.take_append_getElem (by omega)]
   omega
 have := h out.length (Nat.le_refl _)
 rwa [List.take_length] at this
def Bw (ns : List Nod) (i : Nat) : Bool := match ns[i]? with | some n => n.inn | none => false
def many (ns : List Nod) (i : Nat) : Nat := (((List.range ns.length).drop i).filter (Bw ns)).length
def allDoc (ns : List Nod) (i : Nat) : Bool := ((List.range ns.length).drop i).all fun j => Bw ns j || BP ns j
theorem zero_inn {n : Nod} (h : n.zero = true) : n.inn = false := by
 simp only [Nod.zero, Bool.and_eq_true, Bool.not_eq_true'] at h
 exact h.1
theorem filter_sub {α : Type} {p q : α → Bool} : ∀ (l : List α), (∀ x ∈ l, p x = true → q x = true) → ((l.filter p).length ≤ (l.filter q).length) ∧ ((l.filter p).length = (l.filter q).length → ∀ x ∈ l, q x = true → p x = true)
 | [], _ => ⟨Nat.le_refl _, fun _ x hx => by cases hx⟩
 | a :: l, h => by
  obtain ⟨h1, h2⟩ := filter_sub l (fun x hx => h x (List.mem_cons_of_mem _ hx))
  have ha := h a (List.mem_cons_self ..)
  cases hp : p a with
  | true =>
   have hq := ha hp
   rw [List.filter_cons_of_pos hp, List.filter_cons_of_pos hq, List.length_cons, List.length_cons]
   refine ⟨by omega, fun e x hx hqx => ?_⟩
   rcases List.mem_cons.1 hx with rfl | hx
   ·exact hp
   ·exact h2 (by omega) x hx hqx
  | false =>
   have hp' : ¬ p a = true := by rw [hp]; decide
   rw [List.filter_cons_of_neg hp']
   cases hq : q a with
   | true =>
    rw [List.filter_cons_of_pos hq, List.length_cons]
    exact ⟨by omega, fun e => by omega⟩
   | false =>
    have hq' : ¬ q a = true := by rw [hq]; decide
    rw [List.filter_cons_of_neg hq']
    refine ⟨h1, fun e x hx hqx => ?_⟩
    rcases List.mem_cons.1 hx with rfl | hx
    ·rw [hq] at hqx; cases hqx
    ·exact h2 e x hx hqx
theorem filter_not {α : Type} (p : α → Bool) : ∀ l : List α, (l.filter p).length + (l.filter fun x => !p x).length = l.length
 | [] => rfl
 | a :: l => by
  have := filter_not p l
  cases hp : p a with
  | true => simp only [List.filter_cons, hp, if_true, Bool.not_true, Bool.false_eq_true, if_false, List.length_cons]; omega
  | false => simp only [List.filter_cons, hp, if_true, Bool.not_false, Bool.false_eq_true, if_false, List.length_cons]; omega
theorem ordO_doc (root : Int) (ns : List Nod) (h64 : ns.length ≤ 64) : ordO root ns = if allDoc ns 0 && ((B3 ns root (-1) []).2.2 && decide (many ns 0 = (B3 ns root (-1) []).1.length)) then some (B3 ns root (-1) []).1 else none := by
 unfold ordO
 rw [if_neg (by omega)]
 cases hz : (B3 ns root (-1) []).2.2 with
 | false => simp
 | true =>
  obtain ⟨t, hI, ho, hp, hnd⟩ := gth_tree (ns.length + 1) root (-1) [] hz (by simp)
  have hp' : (B3 ns root (-1) []).2.1 = t.pre := by rw [← List.nil_append t.pre]; exact hp
  have ho' : (B3 ns root (-1) []).1 = t.ord := ho
  rw [hp', ho']
  obtain ⟨hg, -, -⟩ := gth_in (ns.length + 1) root (-1) [] (gIn_nil ns)
  have hg' : t.pre.length + left ns.length t.pre ≤ ns.length := by have : gIn ns (B3 ns root (-1) []).2.1 := hg; rw [hp'] at this; exact this
  have hge := left_ge ns.length t.pre
  have hmem : ∀ i : Nat, t.pre.contains (i : Int) = true → Bw ns i = true := fun i hi => by
   have hi' : (i : Int) ∈ t.pre := by simpa using hi
   obtain ⟨n, h1, h2⟩ := hI.mem hi'
   obtain ⟨j, hj, -, h3⟩ := C9 h1
   have : i = j := by omega
   subst this
   simp only [Bw, h3]; exact h2
  have hfn := filter_not (Bw ns) (List.range ns.length)
  have hle : ((List.range ns.length).filter (Bw ns)).length = many ns 0 := rfl
  rw [List.length_range, hle] at hfn
  have hsub := filter_sub (p := fun i : Nat => !Bw ns i) (q := fun i : Nat => !t.pre.contains (i : Int)) (List.range ns.length) (fun i _ hi => by
   cases hc : t.pre.contains (i : Int) with
   | false => rfl
   | true => rw [hmem i hc] at hi; cases hi)
  have hl : ((List.range ns.length).filter fun i : Nat => !t.pre.contains (i : Int)).length = left ns.length t.pre := rfl
  rw [hl] at hsub
  have hol := t.ord_len
  have key : ((List.range ns.length).all fun i : Nat => t.pre.contains (i : Int) || BP ns i) = (allDoc ns 0 && decide (many ns 0 = t.ord.length)) := by
   rw [Bool.eq_iff_iff]
   simp only [List.all_eq_true, List.mem_range, Bool.or_eq_true, Bool.and_eq_true, decide_eq_true_eq, allDoc, List.drop_zero]
   constructor
   ·intro h
    have hin : ∀ i, i < ns.length → Bw ns i = true → t.pre.contains (i : Int) = true := fun i hi hinn => by
     rcases h i hi with h1 | h1
     ·exact h1
     ·exfalso
      simp only [Bw, BP, List.getElem?_eq_getElem hi] at hinn h1
      rw [zero_inn h1] at hinn
      cases hinn
    refine ⟨fun i hi => ?_, ?_⟩
    ·rcases h i hi with h1 | h1
     ·exact .inl (hmem i h1)
     ·exact .inr h1
    ·have hsub2 := filter_sub (p := fun i : Nat => !t.pre.contains (i : Int)) (q := fun i : Nat => !Bw ns i) (List.range ns.length) (fun i hi hc => by
      cases hb : Bw ns i with
      | false => rfl
      | true => rw [hin i (List.mem_range.1 hi) hb] at hc; cases hc)
     rw [hl] at hsub2
     have := hsub.1; have := hsub2.1
     omega
   ·rintro ⟨h1, h2⟩ i hi
    have heq := hsub.2 (by have := hsub.1; omega) i (List.mem_range.2 hi)
    cases hc : t.pre.contains (i : Int) with
    | true => exact .inl rfl
    | false =>
     rw [hc] at heq
     have hb : Bw ns i = false := by simpa using heq rfl
     rcases h1 i hi with h3 | h3
     ·rw [hb] at h3; cases h3
     ·exact .inr h3
  rw [key]
  simp
theorem nod_fields : fieldsOf Tryz.prog 117 = [(4, 0), (4, 1), (39, 2), (3, 3), (3, 4), (3, 5)] := by kernel_rfl
def vNod (n : Nod) : Value := .agg #[.bool n.inn, .bool n.red, .int .u64 n.v, .int .i64 n.l, .int .i64 n.r, .int .i64 n.u]
def nodE : Nod := ⟨false, false, 0, -1, -1, -1⟩
theorem nod_p0 (a b : Bool) (v l r u : Int) : Ar Tryz.prog (part 4 #[.bool a, .bool b, .int .u64 v, .int .i64 l, .int .i64 r, .int .i64 u] 0) = some (.bool a) := by kernel_rfl
theorem nod_p1 (a b : Bool) (v l r u : Int) : Ar Tryz.prog (part 4 #[.bool a, .bool b, .int .u64 v, .int .i64 l, .int .i64 r, .int .i64 u] 1) = some (.bool b) := by kernel_rfl
theorem nod_p2 (a b : Bool) (v l r u : Int) : Ar Tryz.prog (part 39 #[.bool a, .bool b, .int .u64 v, .int .i64 l, .int .i64 r, .int .i64 u] 2) = some (.int .u64 v) := by kernel_rfl
theorem nod_p3 (a b : Bool) (v l r u : Int) : Ar Tryz.prog (part 3 #[.bool a, .bool b, .int .u64 v, .int .i64 l, .int .i64 r, .int .i64 u] 3) = some (.int .i64 l) := by kernel_rfl
theorem nod_p4 (a b : Bool) (v l r u : Int) : Ar Tryz.prog (part 3 #[.bool a, .bool b, .int .u64 v, .int .i64 l, .int .i64 r, .int .i64 u] 4) = some (.int .i64 r) := by kernel_rfl
theorem nod_p5 (a b : Bool) (v l r u : Int) : Ar Tryz.prog (part 3 #[.bool a, .bool b, .int .u64 v, .int .i64 l, .int .i64 r, .int .i64 u] 5) = some (.int .i64 u) := by kernel_rfl
theorem nod_zero (n : Nod) : Ar Tryz.prog (Op.equal 117 (vNod n) (vNod nodE)) = some n.zero := by
 show Ar Tryz.prog (Op.equalIn (9998 + 1 + 1) 117 (vNod n) (vNod nodE)) = _
 unfold vNod nodE
 rw [eq_struct' (by rw [nod_fields]; rfl), nod_fields]
 simp only [eqParts, nod_p0, nod_p1, nod_p2, nod_p3, nod_p4, nod_p5, eq_intK und3, eq_intK und39, eq_boolK und4]
 obtain ⟨a, b, v, l, r, u⟩ := n
 have hv : ((v : Int) == ((0 : Nat) : Int)) = (v == 0) := by
  by_cases h : v = 0
  ·subst h; rfl
  ·have : ¬ (v : Int) = ((0 : Nat) : Int) := by omega
   have h2 : (v == 0) = false := by simpa using h
   rw [h2]; simpa using this
 simp only [Nod.zero, hv]
 cases a <;> cases b <;> cases (v == 0) <;> cases (l == -1) <;> cases (r == -1) <;> cases (u == -1) <;> rfl
def emS : Spec
 | [] => some [.agg nodE.cs]
 | _ => none
theorem em_call : sV C0 151 [] [] = some ([.agg nodE.cs], [], []) := by kernel_rfl
theorem em_sat : AJ C0 151 emS := Af (O := Ab) BN (fun _ _ h => h.elim) Bm fun ps rs hs => by
 unfold emS at hs
 split at hs
 ·cases hs
  exact A4 em_call A2
 ·cases hs
noncomputable def CEm : Ctx := Ad C0 151 emS
theorem hPEm : Aw CEm := A7 BN (em_sat.ctx rfl rfl) (by kernel_rfl)
noncomputable def COr : Ctx := Ad CEm 222 (gaS 65)
theorem hPOr : Aw COr := A7 hPEm (gather_sat.ctx rfl rfl) (by kernel_rfl)
def orH (root : Int) (rows : A8) : H := { objs := [(A1 194 1, 1, [.cells [vi root, .d (.mn 6 rows)] false])] }
def orHd (root : Int) (rows ls : A8) (z : Bool) (m i : Int) : St := { σ := Ap 52 [(1, .ptr (A1 194 1) 0 0), (4, .d (.mn 1 ls)), (6, vb z), (7, vi m), (8, vi i)], h := orH root rows }
def orOut (root : Int) (rows ls : A8) (z : Bool) (m : Int) : St := { σ := Ap 52 [(4, .d (.mn 1 ls)), (6, vb z), (7, vi m)], h := orH root rows }
def orRet (root : Int) (rows : A8) : St := { σ := Ap 52 [(2, .d dnil), (3, vb false)], h := orH root rows }
theorem or_exit (root m i : Int) (rows ls : A8) (z : Bool) : sM COr 194 0 (orHd root rows ls z m i) [(A1 194 25, .b false)] [4, 6, 7] = some ((.exit 0, orOut root rows ls z m), [], [decide (i < (rows.length : Int)) = false]) := by kernel_rfl
theorem or_in (root m i m' i' : Int) (rows ls : A8) (z r : Bool) (nv nl nr nu : Int) (X : X) (st : St) : AY COr Ab 60 (Lp 194 0 (orHd root rows ls z m i)) [(A1 194 25, .b true), (A1 194 31, .row [db true, db r, du nv, di nl, di nr, di nu]), (A1 194 35, .int m'), (A1 194 27, .int i'), (A1 194 8001, .loop [1, 4, 6, 7, 8] X st)] =
  some (.code X st, [], [decide (i < (rows.length : Int)) = true, 0 ≤ i ∧ rows[i.toNat]? = some [db true, db r, du nv, di nl, di nr, di nu], IntKind.wrap .i64 (m + 1) = m', IntKind.wrap .i64 (i + 1) = i', Ev COr Ab (Lp 194 0 (orHd root rows ls z m' i')) (.code X st)]) := by kernel_rfl
theorem or_no (root m i i' : Int) (rows ls : A8) (z r : Bool) (nv : Nat) (nl nr nu : Int) (X : X) (st : St) : AY COr Ab 60 (Lp 194 0 (orHd root rows ls z m i)) [(A1 194 25, .b true), (A1 194 31, .row [db false, db r, du nv, di nl, di nr, di nu]), (A1 194 39, .row [db false, db r, du nv, di nl, di nr, di nu]), (A1 194 42, .eqv true), (A1 194 27, .int i'), (A1 194 8001, .loop [1, 4, 6, 7, 8] X st)] =
  some (.code X st, [], [decide (i < (rows.length : Int)) = true, 0 ≤ i ∧ rows[i.toNat]? = some [db false, db r, du nv, di nl, di nr, di nu], 0 ≤ i ∧ rows[i.toNat]? = some [db false, db r, du nv, di nl, di nr, di nu], Ar Tryz.prog (Op.equal 117 (vNod ⟨false, r, nv, nl, nr, nu⟩) (vNod nodE)) = some true, IntKind.wrap .i64 (i + 1) = i', Ev COr Ab (Lp 194 0 (orHd root rows ls z m i')) (.code X st)]) := by kernel_rfl
theorem or_bad (root m i : Int) (rows ls : A8) (z r : Bool) (nv : Nat) (nl nr nu : Int) : sM COr 194 0 (orHd root rows ls z m i) [(A1 194 25, .b true), (A1 194 31, .row [db false, db r, du nv, di nl, di nr, di nu]), (A1 194 39, .row [db false, db r, du nv, di nl, di nr, di nu]), (A1 194 42, .eqv false)] [2, 3] =
  some ((.ret, orRet root rows), [], [decide (i < (rows.length : Int)) = true, 0 ≤ i ∧ rows[i.toNat]? = some [db false, db r, du nv, di nl, di nr, di nu], 0 ≤ i ∧ rows[i.toNat]? = some [db false, db r, du nv, di nl, di nr, di nu], Ar Tryz.prog (Op.equal 117 (vNod ⟨false, r, nv, nl, nr, nu⟩) (vNod nodE)) = some false]) := by kernel_rfl
theorem or_long (root : Int) (rows : A8) : sV COr 194 [.agg [di root, .mn 6 rows]] [(A1 194 12, .b true)] = some ([.one dnil, A3 false], [], [decide ((rows.length : Int) > 64) = true]) := by kernel_rfl
def orScr (ls ss : A8) (z : Bool) (X : X) (st : St) (l : Ah) : Ah := (A1 194 12, .b false) :: (A1 194 17, .prim [.one (.mn 1 ls), .one (.mn 1 ss), A3 z]) :: (A1 194 8001, .loop [1, 4, 6, 7, 8] X st) :: l
def orOb (root : Int) (rows ls ss : A8) (z : Bool) (X : X) (st : St) (l : List Prop) : List Prop := (decide ((rows.length : Int) > 64) = false) :: (gaS 65 [.agg [di root, .mn 6 rows], A5 root, A5 (-1), .one dnil] = some [.one (.mn 1 ls), .one (.mn 1 ss), A3 z]) :: (Ev COr Ab (Lp 194 0 (orHd root rows ls z 0 0)) (.code X st)) :: l
theorem or_v1 (root : Int) (rows ls ss : A8) (z : Bool) : sV COr 194 [.agg [di root, .mn 6 rows]] (orScr ls ss z .ret (orRet root rows) []) = some ([.one dnil, A3 false], [], orOb root rows ls ss z .ret (orRet root rows) []) := by kernel_rfl
theorem or_v2 (root m : Int) (rows ls ss : A8) : sV COr 194 [.agg [di root, .mn 6 rows]] (orScr ls ss false (.exit 0) (orOut root rows ls false m) []) = some ([.one dnil, A3 false], [], orOb root rows ls ss false (.exit 0) (orOut root rows ls false m) []) := by kernel_rfl
theorem or_v3 (root m : Int) (rows ls ss : A8) : sV COr 194 [.agg [di root, .mn 6 rows]] (orScr ls ss true (.exit 0) (orOut root rows ls true m) [(A1 194 49, .b true)]) = some ([.one dnil, A3 false], [], orOb root rows ls ss true (.exit 0) (orOut root rows ls true m) [(m != (ls.length : Int)) = true]) := by kernel_rfl
theorem or_v4 (root m : Int) (rows ls ss : A8) : sV COr 194 [.agg [di root, .mn 6 rows]] (orScr ls ss true (.exit 0) (orOut root rows ls true m) [(A1 194 49, .b false)]) = some ([.one (.mn 1 ls), A3 true], [], orOb root rows ls ss true (.exit 0) (orOut root rows ls true m) [(m != (ls.length : Int)) = false]) := by kernel_rfl
def orRes (root : Int) (rows ls : A8) (z : Bool) (m : Nat) (ok : Bool) : X × St := if ok then (.exit 0, orOut root rows ls z m) else (.ret, orRet root rows)
theorem many_step {ns : List Nod} {i : Nat} (h : i < ns.length) : many ns i = (if ns[i].inn then 1 else 0) + many ns (i + 1) := by
 have hd : (List.range ns.length).drop i = i :: (List.range ns.length).drop (i + 1) := by
  have := List.drop_eq_getElem_cons (l := List.range ns.length) (i := i) (by simpa using h)
  simpa using this
 unfold many
 rw [hd]
 have hi : Bw ns i = ns[i].inn := by simp only [Bw, List.getElem?_eq_getElem h]
 cases hb : ns[i].inn with
 | true => rw [hb] at hi; rw [List.filter_cons_of_pos hi]; simp only [List.length_cons, if_true]; omega
 | false =>
  rw [hb] at hi
  have : ¬ Bw ns i = true := by rw [hi]; decide
  rw [List.filter_cons_of_neg this]; simp
theorem allDoc_step {ns : List Nod} {i : Nat} (h : i < ns.length) : allDoc ns i = ((ns[i].inn || ns[i].zero) && allDoc ns (i + 1)) := by
 have hd : (List.range ns.length).drop i = i :: (List.range ns.length).drop (i + 1) := by
  have := List.drop_eq_getElem_cons (l := List.range ns.length) (i := i) (by simpa using h)
  simpa using this
 unfold allDoc
 rw [hd, List.all_cons]
 simp only [Bw, BP, List.getElem?_eq_getElem h]
theorem or_loop (root : Int) (ns : List Nod) (ls : A8) (z : Bool) (h64 : ns.length ≤ 64) : ∀ (d i m : Nat), i + d = ns.length → m ≤ i →
  Ev COr Ab (Lp 194 0 (orHd root (A9 ns) ls z m i)) (.code (orRes root (A9 ns) ls z (m + many ns i) (allDoc ns i)).1 (orRes root (A9 ns) ls z (m + many ns i) (allDoc ns i)).2)
 | 0, i, m, h, _ => by
  have hd : (List.range ns.length).drop i = [] := List.drop_eq_nil_of_le (by simp; omega)
  have h1 : allDoc ns i = true := by unfold allDoc; rw [hd]; rfl
  have h2 : many ns i = 0 := by unfold many; rw [hd]; rfl
  rw [h1, h2]
  exact Ac (or_exit _ _ _ _ _ _) (A0 (by rw [Ay]; exact dge (by omega)) A2)
 | d + 1, i, m, h, hm => by
  have hi : i < ns.length := by omega
  have hb : decide ((i : Int) < ((A9 ns).length : Int)) = true := by rw [Ay]; exact dlt hi
  have hr : 0 ≤ (i : Int) ∧ (A9 ns)[((i : Int)).toNat]? = some (ns[i]).cs := ⟨by omega, AS (List.getElem?_eq_getElem hi)⟩
  rw [many_step hi, allDoc_step hi]
  have hz := nod_zero ns[i]
  generalize ns[i] = n at hr hz ⊢
  obtain ⟨a, r, nv, nl, nr, nu⟩ := n
  cases a with
  | true =>
   have ih := or_loop root ns ls z h64 d (i + 1) (m + 1) (by omega) (by omega)
   simp only [if_true, Bool.true_or, Bool.true_and]
   rw [show m + (1 + many ns (i + 1)) = m + 1 + many ns (i + 1) from by omega]
   exact Aa _ _ _ _ _ _ (or_in root m i ((m + 1 : Nat) : Int) ((i + 1 : Nat) : Int) _ _ _ _ _ _ _ _ _ _) (A0 hb (A0 hr (A0 (Ag (by omega)) (A0 (Ag (by omega)) (A0 ih A2)))))
  | false =>
   simp only [Bool.false_eq_true, if_false, Bool.false_or, Nat.zero_add]
   cases hc : Nod.zero ⟨false, r, nv, nl, nr, nu⟩ with
   | true =>
    rw [hc] at hz
    have ih := or_loop root ns ls z h64 d (i + 1) m (by omega) (by omega)
    rw [Bool.true_and]
    exact Aa _ _ _ _ _ _ (or_no root m i ((i + 1 : Nat) : Int) _ _ _ _ _ _ _ _ _ _) (A0 hb (A0 hr (A0 hr (A0 hz (A0 (Ag (by omega)) (A0 ih A2))))))
   | false =>
    rw [hc] at hz
    exact Ac (or_bad root m i _ _ _ _ _ _ _ _) (A0 hb (A0 hr (A0 hr (A0 hz A2))))
def ordR : Option (List Int) → List PV
 | some l => [.one (.mn 1 (A6 l)), A3 true]
 | none => [.one (.mn 1 []), A3 false]
def orS : Spec
 | [.agg [.v (.int .i64 root), .mn 6 rows]] => match Ae nodR rows with
  | some ns => some (ordR (ordO root ns))
  | none => none
 | _ => none
theorem order_sat : AJ C0 194 orS := AJ.ctx (C := COr) rfl rfl (Bh (O := Ab) hPOr (fun _ _ h => h.elim) Bm fun ps rs hs => by
 unfold orS at hs
 split at hs
 ·rename_i root rows
  split at hs
  ·rename_i ns hn
   cases hs
   obtain ⟨rfl, hv⟩ := nrows_of hn
   refine ⟨[.agg [di root, .mn 6 (A9 ns)]], ?_⟩
   have hw : WL [.agg [.v (.int .i64 root), .mn 6 (A9 ns)]] [.agg [di root, .mn 6 (A9 ns)]] := WL.same _
   have no : ∀ {p : Prop}, p → True := fun _ => trivial
   have lnil : WL [.one dnil, A3 false] (ordR none) := .cons (.one (.nil 1)) (.cons (.same _) .nil)
   by_cases h64 : ns.length ≤ 64
   ·have b0 : decide (((A9 ns).length : Int) > 64) = false := decide_eq_false (by rw [Ay]; omega)
    have hg := gaS_at (k := 65) (root := root) (x := root) (up := -1) hv (d := dnil) (seen := []) rfl h64 (gIn_nil ns) (by rw [Cx]; omega)
    have hlen : (B3 ns root (-1) []).1.length ≤ 64 := by
     obtain ⟨h1, -, h3⟩ := gth_in (ns.length + 1) root (-1) [] (gIn_nil ns)
     unfold gIn at h1
     have h3' : (B3 ns root (-1) []).1.length + 0 ≤ (B3 ns root (-1) []).2.1.length := h3
     have h1' : (B3 ns root (-1) []).2.1.length + left ns.length (B3 ns root (-1) []).2.1 ≤ ns.length := h1
     omega
    rw [ordO_doc root ns h64]
    generalize B3 ns root (-1) [] = g at hg hlen ⊢
    obtain ⟨ls, ss, z⟩ := g
    simp only at hg hlen ⊢
    have hk := or_loop root ns (A6 ls) z h64 ns.length 0 0 (by omega) (by omega)
    rw [Nat.zero_add] at hk
    cases ha : allDoc ns 0 with
    | false =>
     rw [ha] at hk
     exact ⟨_, hw, lnil, A4 (or_v1 root _ _ _ z) (A0 b0 (A0 hg (A0 hk A2)))⟩
    | true =>
     rw [ha] at hk
     simp only [Bool.true_and]
     cases z with
     | false => exact ⟨_, hw, lnil, A4 (or_v2 root _ _ _ _) (A0 b0 (A0 hg (A0 hk A2)))⟩
     | true =>
      simp only [Bool.true_and]
      by_cases hm : many ns 0 = ls.length
      ·rw [decide_eq_true hm]
       refine ⟨_, hw, WL.same _, A4 (or_v4 root _ _ _ _) (A0 b0 (A0 hg (A0 hk (A0 ?_ A2))))⟩
       rw [Ax, hm]; simp
      ·rw [decide_eq_false hm]
       refine ⟨_, hw, lnil, A4 (or_v3 root _ _ _ _) (A0 b0 (A0 hg (A0 hk (A0 ?_ A2))))⟩
       rw [Ax]
       have : ¬ ((many ns 0 : Nat) : Int) = (ls.length : Int) := by omega
       simpa using this
   ·have : ordO root ns = none := by unfold ordO; rw [if_pos (by omega)]
    rw [this]
    exact ⟨_, hw, lnil, A4 (or_long root _) (A0 (decide_eq_true (by rw [Ay]; omega)) A2)⟩
  ·cases hs
 ·cases hs)
def kD (k : Ky) : List DV := [du k.1, di k.2]
def Ai (l : List Ky) : A8 := l.map kD
theorem AU (l : List Ky) : (Ai l).length = l.length := by simp [Ai]
def vAt (ns : List Nod) (x : Int) : Nat := match Bk ns x with | some n => n.v | none => 0
def AP (ns : List Nod) (x : Int) : Ky := (vAt ns x, x)
def keysO (root : Int) (ns : List Nod) : List Ky := match ordO root ns with
 | some l => l.map (AP ns)
 | none => []
theorem ordO_tree {root : Int} {ns : List Nod} {l : List Int} (h : ordO root ns = some l) : ns.length ≤ 64 ∧ l.length ≤ ns.length ∧ ∃ t : BT, Is ns t root (-1) ∧ l = t.ord ∧ t.pre.Nodup ∧ t.pre.length ≤ ns.length := by
 unfold ordO at h
 split at h
 ·cases h
 ·rename_i h64
  split at h
  ·rename_i hc
   cases h
   have hz : (AZ ns (ns.length + 1) root (-1) []).2.2 = true := by
    rw [Bool.and_eq_true] at hc
    exact hc.1
   obtain ⟨t, hI, ho, hp, hnd⟩ := gth_tree (ns.length + 1) root (-1) [] hz (by simp)
   obtain ⟨hg, -, hl⟩ := gth_in (ns.length + 1) root (-1) [] (gIn_nil ns)
   rw [hp] at hg hl
   rw [List.nil_append] at hnd hg hl
   have hg' : t.pre.length + left ns.length t.pre ≤ ns.length := hg
   have h1 : (B3 ns root (-1) []).1 = t.ord := ho
   refine ⟨by omega, ?_, t, hI, h1, hnd, by omega⟩
   rw [h1, t.ord_len]; omega
  ·cases h
theorem ordO_at {root : Int} {ns : List Nod} {l : List Int} (h : ordO root ns = some l) : ∀ x ∈ l, ∃ (i : Nat) (n : Nod), x = (i : Int) ∧ ns[i]? = some n ∧ AP ns x = (n.v, x) := fun x hx => by
 obtain ⟨-, -, t, hI, rfl, -, -⟩ := ordO_tree h
 obtain ⟨n, h1, h2⟩ := hI.mem ((t.ord_mem).1 hx)
 obtain ⟨i, h3, -, h4⟩ := C9 h1
 exact ⟨i, n, h3, h4, by simp only [AP, vAt, h1]⟩
theorem apR_sn (sz s : Nat) (r x : List DV) (l : A8) : apR sz s ((r :: l) ++ [x]) = .st sz ((r :: l) ++ [x]) s (2 * l.length + 1 + 1 + 1) := by
 simp only [List.cons_append, apR, List.length_append, List.length_cons, List.length_nil]
 congr 1
theorem apRT_sn (s : Nat) (r x : List DV) (l : A8) : Ct s ((r :: l) ++ [x]) = [(s, 2 * l.length + 1 + 1 + 1)] := by
 simp only [List.cons_append, Ct, List.length_append, List.length_cons, List.length_nil]
 congr 1
noncomputable def CWa : Ctx := Ad C0 194 orS
theorem hPWa : Aw CWa := A7 BN (order_sat.ctx rfl rfl) (by kernel_rfl)
def wkH (root : Int) (rows : A8) (t : AC) : H := { objs := [(A1 198 1, 1, [.cells [vi root, .d (.mn 6 rows)] false])], toks := t }
def wkHd (root : Int) (rows ls : A8) (a : AV) (t : AC) (i : Int) : St := { σ := Ap 38 [(1, .ptr (A1 198 1) 0 0), (3, .d (.mn 1 ls)), (5, a), (6, vi i)], h := wkH root rows t }
def wkOut (root : Int) (rows : A8) (a : AV) (t : AC) : St := { σ := Ap 38 [(5, a)], h := wkH root rows t }
theorem wk_exit (root i : Int) (rows ls : A8) (a : AV) (t : AC) : sM CWa 198 0 (wkHd root rows ls a t i) [(A1 198 17, .b false)] [5] = some ((.exit 0, wkOut root rows a t), [], [decide (i < (ls.length : Int)) = false]) := by kernel_rfl
def wkScr (x : Int) (a r : Bool) (nv nl nr nu i' : Int) (X : X) (st : St) : Ah := [(A1 198 17, .b true), (A1 198 25, .row [di x]), (A1 198 27, .row [db a, db r, du nv, di nl, di nr, di nu]), (A1 198 32, .row [di x]), (A1 198 36, .app false), (A1 198 19, .int i'), (A1 198 8001, .loop [1, 3, 5, 6] X st)]
def wkOb (rows ls : A8) (x i : Int) (a r : Bool) (nv nl nr nu i' : Int) (l : List Prop) : List Prop := [decide (i < (ls.length : Int)) = true, 0 ≤ i ∧ ls[i.toNat]? = some [di x], 0 ≤ x ∧ rows[x.toNat]? = some [db a, db r, du nv, di nl, di nr, di nu], 0 ≤ i ∧ ls[i.toNat]? = some [di x]] ++ l
theorem wk_n (root i x i' : Int) (rows ls : A8) (a r : Bool) (nv nl nr nu : Int) (X : X) (st : St) : AY CWa Ab 60 (Lp 198 0 (wkHd root rows ls (.d dnil) [] i)) (wkScr x a r nv nl nr nu i' X st) =
  some (.code X st, [], wkOb rows ls x i a r nv nl nr nu i' [false = false ∧ Am 0 1 16, IntKind.wrap .i64 (i + 1) = i', Ev CWa Ab (Lp 198 0 (wkHd root rows ls (.st 2 ([] ++ [[du nv, di x]]) (A1 198 36) 1) [(A1 198 36, 1)] i')) (.code X st)]) := by kernel_rfl
theorem wk_s (root i x i' : Int) (rows ls out : A8) (g : Nat) (a r : Bool) (nv nl nr nu : Int) (X : X) (st : St) : AY CWa Ab 60 (Lp 198 0 (wkHd root rows ls (.st 2 out (A1 198 36) g) [(A1 198 36, g)] i)) (wkScr x a r nv nl nr nu i' X st) =
  some (.code X st, [], wkOb rows ls x i a r nv nl nr nu i' [false = false ∧ (g = g ∧ Am out.length 1 16), IntKind.wrap .i64 (i + 1) = i', Ev CWa Ab (Lp 198 0 (wkHd root rows ls (.st 2 (out ++ [[du nv, di x]]) (A1 198 36) (g + 1 + 1)) [(A1 198 36, g + 1 + 1)] i')) (.code X st)]) := by kernel_rfl
theorem wk_loop (root : Int) (ns : List Nod) (ls : List Int) (hn : ns.length ≤ 64) (hl : ls.length ≤ 64) (hat : ∀ x ∈ ls, ∃ (i : Nat) (n : Nod), x = (i : Int) ∧ ns[i]? = some n ∧ AP ns x = (n.v, x)) : ∀ (d i : Nat), i + d = ls.length →
  Ev CWa Ab (Lp 198 0 (wkHd root (A9 ns) (A6 ls) (apR 2 (A1 198 36) (Ai ((ls.map (AP ns)).take i))) (Ct (A1 198 36) (Ai ((ls.map (AP ns)).take i))) i)) (.code (.exit 0) (wkOut root (A9 ns) (apR 2 (A1 198 36) (Ai (ls.map (AP ns)))) (Ct (A1 198 36) (Ai (ls.map (AP ns))))))
 | 0, i, h => by
  have : (ls.map (AP ns)).take i = ls.map (AP ns) := List.take_of_length_le (by rw [List.length_map]; omega)
  rw [this]
  exact Ac (wk_exit _ _ _ _ _ _) (A0 (by rw [Ax]; exact dge (by omega)) A2)
 | d + 1, i, h => by
  have hi : i < ls.length := by omega
  have ih := wk_loop root ns ls hn hl hat d (i + 1) (by omega)
  have ht : (ls.map (AP ns)).take (i + 1) = (ls.map (AP ns)).take i ++ [AP ns ls[i]] := by
   rw [List.take_succ_eq_append_getElem (by rw [List.length_map]; exact hi), List.getElem_map]
  have hk : Ai ((ls.map (AP ns)).take (i + 1)) = Ai ((ls.map (AP ns)).take i) ++ [kD (AP ns ls[i])] := by rw [ht]; simp [Ai]
  rw [hk] at ih
  have hlen : (Ai ((ls.map (AP ns)).take i)).length = i := by simp [Ai]; omega
  obtain ⟨j, n, hx, hnj, hky⟩ := hat _ (List.getElem_mem hi)
  have hb : decide ((i : Int) < ((A6 ls).length : Int)) = true := by rw [Ax]; exact dlt hi
  have hr : 0 ≤ (i : Int) ∧ (A6 ls)[((i : Int)).toNat]? = some [di ls[i]] := ⟨by omega, B2 (List.getElem?_eq_getElem hi)⟩
  have hq : 0 ≤ (j : Int) ∧ (A9 ns)[((j : Int)).toNat]? = some n.cs := ⟨by omega, AS hnj⟩
  rw [hky] at ih
  rw [hx] at hr ih
  obtain ⟨a, r, nv, nl, nr, nu⟩ := n
  generalize Ai ((ls.map (AP ns)).take i) = out at ih hlen ⊢
  cases out with
  | nil => exact Aa _ _ _ _ _ _ (wk_n root i j ((i + 1 : Nat) : Int) _ _ _ _ _ _ _ _ _ _) (A0 hb (A0 hr (A0 hq (A0 hr (A0 ⟨rfl, by unfold Am; omega⟩ (A0 (Ag (by omega)) (A0 ih A2)))))))
  | cons c l =>
   rw [apR_sn, apRT_sn] at ih
   exact Aa _ _ _ _ _ _ (wk_s root i j ((i + 1 : Nat) : Int) _ _ _ _ _ _ _ _ _ _ _ _) (A0 hb (A0 hr (A0 hq (A0 hr (A0 ⟨rfl, rfl, by unfold Am; omega⟩ (A0 (Ag (by omega)) (A0 ih A2)))))))
theorem wa_no (root : Int) (rows ls : A8) : sV CWa 198 [.agg [di root, .mn 6 rows]] [(A1 198 9, .prim [.one (.mn 1 ls), A3 false])] = some ([.one dnil], [], [orS [.agg [di root, .mn 6 rows]] = some [.one (.mn 1 ls), A3 false]]) := by kernel_rfl
theorem wa_n (root : Int) (rows ls : A8) (t : AC) : sV CWa 198 [.agg [di root, .mn 6 rows]] [(A1 198 9, .prim [.one (.mn 1 ls), A3 true]), (A1 198 8001, .loop [1, 3, 5, 6] (.exit 0) (wkOut root rows (.d dnil) t))] =
  some ([.one dnil], [], [orS [.agg [di root, .mn 6 rows]] = some [.one (.mn 1 ls), A3 true], Ev CWa Ab (Lp 198 0 (wkHd root rows ls (.d dnil) [] 0)) (.code (.exit 0) (wkOut root rows (.d dnil) t))]) := by kernel_rfl
theorem wa_s (root : Int) (rows ls out : A8) (s g : Nat) (t : AC) : sV CWa 198 [.agg [di root, .mn 6 rows]] [(A1 198 9, .prim [.one (.mn 1 ls), A3 true]), (A1 198 8001, .loop [1, 3, 5, 6] (.exit 0) (wkOut root rows (.st 2 out s g) t))] =
  some ([.one (.sl 2 false out)], [], [orS [.agg [di root, .mn 6 rows]] = some [.one (.mn 1 ls), A3 true], Ev CWa Ab (Lp 198 0 (wkHd root rows ls (.d dnil) [] 0)) (.code (.exit 0) (wkOut root rows (.st 2 out s g) t))]) := by kernel_rfl
def waS : Spec
 | [.agg [.v (.int .i64 root), .mn 6 rows]] => match Ae nodR rows with
  | some ns => some [.one (.mn 2 (Ai (keysO root ns)))]
  | none => none
 | _ => none
theorem orS_at {root : Int} {ns : List Nod} (hv : ∀ n ∈ ns, n.v < 2 ^ 64) : orS [.agg [di root, .mn 6 (A9 ns)]] = some (ordR (ordO root ns)) := by
 simp only [orS, di, C8 hv]
theorem waS_at {root : Int} {ns : List Nod} (hv : ∀ n ∈ ns, n.v < 2 ^ 64) : waS [.agg [di root, .mn 6 (A9 ns)]] = some [.one (.mn 2 (Ai (keysO root ns)))] := by
 simp only [waS, di, C8 hv]
theorem walkD_sat : AJ C0 198 waS := AJ.ctx (C := CWa) rfl rfl (Bh (O := Ab) hPWa (fun _ _ h => h.elim) Bm fun ps rs hs => by
 unfold waS at hs
 split at hs
 ·rename_i root rows
  split at hs
  ·rename_i ns hn
   cases hs
   obtain ⟨rfl, hv⟩ := nrows_of hn
   have hp := orS_at (root := root) hv
   refine ⟨[.agg [di root, .mn 6 (A9 ns)]], ?_⟩
   have hw : WL [.agg [.v (.int .i64 root), .mn 6 (A9 ns)]] [.agg [di root, .mn 6 (A9 ns)]] := WL.same _
   unfold keysO
   cases ho : ordO root ns with
   | none =>
    rw [ho] at hp
    exact ⟨_, hw, .cons (.one (.nil 2)) .nil, A4 (wa_no root _ _) (A0 hp A2)⟩
   | some l =>
    rw [ho] at hp
    obtain ⟨h64, hll, -⟩ := ordO_tree ho
    have hk := wk_loop root ns l h64 (by omega) (ordO_at ho) l.length 0 (by omega)
    simp only [List.take_zero] at hk
    cases l with
    | nil => exact ⟨_, hw, .cons (.one (.nil 2)) .nil, A4 (wa_n root _ _ _) (A0 hp (A0 hk A2))⟩
    | cons x l => exact ⟨_, hw, .cons (.one (.row 2 false _)) .nil, A4 (wa_s root _ _ _ _ _ _) (A0 hp (A0 hk A2))⟩
  ·cases hs
 ·cases hs)
def redS : Spec
 | [.agg [.v (.int .i64 _), .mn 6 rows], .one (.v (.int .i64 x))] => match Ae nodR rows with
  | some ns => if x < 0 then some [A3 false] else match Bk ns x with
   | some n => some [A3 n.red]
   | none => none
  | none => none
 | _ => none
theorem rd_neg (root x : Int) (rows : A8) : sV C0 195 [.agg [di root, .mn 6 rows], A5 x] [(A1 195 6, .b false)] = some ([A3 false], [], [decide (x ≥ 0) = false]) := by kernel_rfl
theorem rd_at (root x : Int) (rows : A8) (a r : Bool) (nv nl nr nu : Int) : sV C0 195 [.agg [di root, .mn 6 rows], A5 x] [(A1 195 6, .b true), (A1 195 11, .row [db a, db r, du nv, di nl, di nr, di nu])] = some ([A3 r], [], [decide (x ≥ 0) = true, 0 ≤ x ∧ rows[x.toNat]? = some [db a, db r, du nv, di nl, di nr, di nu]]) := by kernel_rfl
theorem red_sat : AJ C0 195 redS := Af (O := Ab) BN (fun _ _ h => h.elim) Bm fun ps rs hs => by
 unfold redS at hs
 split at hs
 ·rename_i root rows x
  split at hs
  ·rename_i ns hn
   obtain ⟨rfl, hv⟩ := nrows_of hn
   split at hs
   ·rename_i hx
    cases hs
    exact A4 (rd_neg root x _) (A0 (decide_eq_false (by omega)) A2)
   ·rename_i hx
    split at hs
    ·rename_i n ha
     cases hs
     obtain ⟨i, rfl, -, hi⟩ := C9 ha
     exact A4 (rd_at root i _ n.inn n.red n.v n.l n.r n.u) (A0 (decide_eq_true (by omega)) (A0 ⟨by omega, AS hi⟩ A2))
    ·cases hs
  ·cases hs
 ·cases hs
theorem redS_at {root x : Int} {ns : List Nod} (hv : ∀ n ∈ ns, n.v < 2 ^ 64) (h : x < 0 ∨ ∃ n, Bk ns x = some n) : redS [.agg [di root, .mn 6 (A9 ns)], A5 x] = some [A3 (BS ns x)] := by
 simp only [redS, di, A5, C8 hv]
 rcases h with h | ⟨n, h⟩
 ·rw [if_pos h]
  have : Bk ns x = none := by unfold Bk; rw [if_pos h]
  simp only [BS, this]
 ·obtain ⟨i, rfl, -, -⟩ := C9 h
  rw [if_neg (by omega)]
  simp only [BS, h]
def isB (ns : List Nod) : BT → Int → Bool
 | .nil, x => x == -1
 | .node l y r, x => y == x && match Bk ns x with
  | some n => isB ns l n.l && isB ns r n.r
  | none => false
theorem Is.b {ns : List Nod} : ∀ {t : BT} {x up : Int}, Is ns t x up → isB ns t x = true
 | .nil, x, up, h => by have hx : x = -1 := h; simp [isB, hx]
 | .node l y r, x, up, ⟨hy, n, h1, h2, h3, h4, h5⟩ => by simp [isB, hy, h1, h4.b, h5.b]
def blkI (ns : List Nod) (t : BT) : Int := match blkT ns t with | some a => (a : Int) | none => -1
theorem blkT_le {ns : List Nod} : ∀ {t : BT} {a : Nat}, blkT ns t = some a → a ≤ t.deep
 | .nil, a, h => by simp [blkT] at h; omega
 | .node l x r, a, h => by
  simp only [blkT] at h
  cases h1 : Bk ns x with
  | none => simp [h1] at h
  | some n =>
   cases h2 : blkT ns l with
   | none => simp [h1, h2] at h
   | some p =>
    cases h3 : blkT ns r with
    | none => simp [h1, h2, h3] at h
    | some q =>
     simp only [h1, h2, h3] at h
     have := blkT_le h2
     have hd : l.deep ≤ (BT.node l x r).deep - 1 := by simp only [BT.deep]; omega
     have hd' : 1 ≤ (BT.node l x r).deep := by simp only [BT.deep]; omega
     split at h
     ·simp only [Option.some.injEq] at h
      split at h <;> omega
     ·cases h
theorem trOf_deep {ns : List Nod} : ∀ (k : Nat) (x : Int), (Cp ns k x).deep ≤ k
 | 0, x => Nat.le_refl _
 | k + 1, x => by
  unfold Cp
  split
  ·exact Nat.zero_le _
  ·rename_i n h
   have := trOf_deep (ns := ns) k n.l; have := trOf_deep (ns := ns) k n.r
   simp only [BT.deep]; omega
def blS (k : Nat) : Spec
 | [.agg [.v (.int .i64 _), .mn 6 rows], .one (.v (.int .i64 x))] => match Ae nodR rows with
  | some ns => if k ≤ 100 ∧ isB ns (Cp ns k x) x = true then some [A5 (blkI ns (Cp ns k x))] else none
  | none => none
 | _ => none
theorem blS_at {k : Nat} {root x : Int} {ns : List Nod} (hv : ∀ n ∈ ns, n.v < 2 ^ 64) (hk : k ≤ 100) (h : isB ns (Cp ns k x) x = true) : blS k [.agg [di root, .mn 6 (A9 ns)], A5 x] = some [A5 (blkI ns (Cp ns k x))] := by
 simp only [blS, di, A5, C8 hv]
 rw [if_pos ⟨hk, h⟩]
noncomputable def CRd : Ctx := Ad C0 195 redS
theorem hPRd : Aw CRd := A7 BN (red_sat.ctx rfl rfl) (by kernel_rfl)
noncomputable def CBl (k : Nat) : Ctx := Ad CRd 196 (blS k)
theorem bl_neg (k : Nat) (root x : Int) (rows : A8) : Cs (CBl k) Ab 60 196 [.agg [di root, .mn 6 rows], A5 x] [(A1 196 9, .b true)] = some ([A5 0], [], [decide (x < 0) = true]) := by kernel_rfl
def blScr (a r : Bool) (nv nl nr nu p q : Int) (l : Ah) : Ah := (A1 196 9, .b false) :: (A1 196 13, .row [db a, db r, du nv, di nl, di nr, di nu]) :: (A1 196 18, .prim [A5 p]) :: (A1 196 22, .prim [A5 q]) :: l
def blOb (k : Nat) (root x : Int) (rows : A8) (a r : Bool) (nv nl nr nu p q : Int) (l : List Prop) : List Prop := (decide (x < 0) = false) :: (0 ≤ x ∧ rows[x.toNat]? = some [db a, db r, du nv, di nl, di nr, di nu]) :: (blS k [.agg [di root, .mn 6 rows], A5 nl] = some [A5 p]) :: (blS k [.agg [di root, .mn 6 rows], A5 nr] = some [A5 q]) :: l
theorem bl_1 (k : Nat) (root x : Int) (rows : A8) (a r : Bool) (nv nl nr nu p q : Int) : Cs (CBl k) Ab 60 196 [.agg [di root, .mn 6 rows], A5 x] (blScr a r nv nl nr nu p q [(A1 196 24, .b true)]) = some ([A5 (-1)], [], blOb k root x rows a r nv nl nr nu p q [decide (p < 0) = true]) := by kernel_rfl
theorem bl_2 (k : Nat) (root x : Int) (rows : A8) (a r : Bool) (nv nl nr nu p q : Int) : Cs (CBl k) Ab 60 196 [.agg [di root, .mn 6 rows], A5 x] (blScr a r nv nl nr nu p q [(A1 196 24, .b false), (A1 196 28, .b true)]) = some ([A5 (-1)], [], blOb k root x rows a r nv nl nr nu p q [decide (p < 0) = false, (p != q) = true]) := by kernel_rfl
theorem bl_3 (k : Nat) (root x : Int) (rows : A8) (a r : Bool) (nv nl nr nu p q p' : Int) : Cs (CBl k) Ab 60 196 [.agg [di root, .mn 6 rows], A5 x] (blScr a false nv nl nr nu p q [(A1 196 24, .b false), (A1 196 28, .b false), (A1 196 50, .int p')]) = some ([A5 p'], [], blOb k root x rows a false nv nl nr nu p q [decide (p < 0) = false, (p != q) = false, IntKind.wrap .i64 (p + 1) = p']) := by kernel_rfl
theorem bl_4 (k : Nat) (root x : Int) (rows : A8) (a r : Bool) (nv nl nr nu p q : Int) : Cs (CBl k) Ab 60 196 [.agg [di root, .mn 6 rows], A5 x] (blScr a true nv nl nr nu p q [(A1 196 24, .b false), (A1 196 28, .b false), (A1 196 37, .prim [A3 true])]) = some ([A5 (-1)], [], blOb k root x rows a true nv nl nr nu p q [decide (p < 0) = false, (p != q) = false, redS [.agg [di root, .mn 6 rows], A5 nl] = some [A3 true]]) := by kernel_rfl
theorem bl_5 (k : Nat) (root x : Int) (rows : A8) (a r : Bool) (nv nl nr nu p q : Int) : Cs (CBl k) Ab 60 196 [.agg [di root, .mn 6 rows], A5 x] (blScr a true nv nl nr nu p q [(A1 196 24, .b false), (A1 196 28, .b false), (A1 196 37, .prim [A3 false]), (A1 196 42, .prim [A3 true])]) = some ([A5 (-1)], [], blOb k root x rows a true nv nl nr nu p q [decide (p < 0) = false, (p != q) = false, redS [.agg [di root, .mn 6 rows], A5 nl] = some [A3 false], redS [.agg [di root, .mn 6 rows], A5 nr] = some [A3 true]]) := by kernel_rfl
theorem bl_6 (k : Nat) (root x : Int) (rows : A8) (a r : Bool) (nv nl nr nu p q : Int) : Cs (CBl k) Ab 60 196 [.agg [di root, .mn 6 rows], A5 x] (blScr a true nv nl nr nu p q [(A1 196 24, .b false), (A1 196 28, .b false), (A1 196 37, .prim [A3 false]), (A1 196 42, .prim [A3 false])]) = some ([A5 p], [], blOb k root x rows a true nv nl nr nu p q [decide (p < 0) = false, (p != q) = false, redS [.agg [di root, .mn 6 rows], A5 nl] = some [A3 false], redS [.agg [di root, .mn 6 rows], A5 nr] = some [A3 false]]) := by kernel_rfl
theorem isB_root {ns : List Nod} {t : BT} {x : Int} (h : isB ns t x = true) : x < 0 ∨ ∃ n, Bk ns x = some n := by
 cases t with
 | nil =>
  left
  have : x = -1 := by simpa [isB] using h
  omega
 | node l y r =>
  right
  cases hn : Bk ns x with
  | none => simp [isB, hn] at h
  | some n => exact ⟨n, rfl⟩
theorem bl_sat : ∀ k : Nat, AJ C0 196 (blS k)
 | 0 => Af (C := C0) (O := Ab) BN (fun _ _ h => h.elim) Bm fun ps rs hs => by
  unfold blS at hs
  split at hs
  ·rename_i root rows x
   split at hs
   ·rename_i ns hn
    split at hs
    ·rename_i hc
     have hx : x = -1 := by simpa [Cp, isB] using hc.2
     cases hs; subst hx
     exact A4 (show sV C0 196 [.agg [di root, .mn 6 rows], A5 (-1)] [] = some ([A5 0], [], []) from by kernel_rfl) A2
    ·cases hs
   ·cases hs
  ·cases hs
 | k + 1 => by
  have hP : Aw (CBl k) := A7 hPRd ((bl_sat k).ctx rfl rfl) (by kernel_rfl)
  refine AJ.ctx (C := CBl k) rfl rfl (Af (O := Ab) hP (fun _ _ h => h.elim) Bm fun ps rs hs => ?_)
  unfold blS at hs
  split at hs
  ·rename_i root rows x
   split at hs
   ·rename_i ns hn
    split at hs
    ·rename_i hc
     obtain ⟨hk, hb⟩ := hc
     cases hs
     obtain ⟨rfl, hv⟩ := nrows_of hn
     cases hna : Bk ns x with
     | none =>
      have ht : Cp ns (k + 1) x = .nil := by unfold Cp; rw [hna]
      rw [ht] at hb ⊢
      have hx : x = -1 := by simpa [isB] using hb
      exact A4 (bl_neg k root x _) (A0 (decide_eq_true (by omega)) A2)
     | some n =>
      have ht : Cp ns (k + 1) x = .node (Cp ns k n.l) x (Cp ns k n.r) := by
       show (match Bk ns x with | none => BT.nil | some n => .node (Cp ns k n.l) x (Cp ns k n.r)) = _
       rw [hna]
      rw [ht] at hb ⊢
      simp only [isB, hna, beq_self_eq_true, Bool.true_and, Bool.and_eq_true] at hb
      obtain ⟨hb1, hb2⟩ := hb
      have r1 := redS_at (root := root) hv (isB_root hb1)
      have r2 := redS_at (root := root) hv (isB_root hb2)
      have p1 := blS_at (root := root) hv (by omega) hb1
      have p2 := blS_at (root := root) hv (by omega) hb2
      obtain ⟨i, rfl, -, hi⟩ := C9 hna
      have hq : 0 ≤ (i : Int) ∧ (A9 ns)[((i : Int)).toNat]? = some n.cs := ⟨by omega, AS hi⟩
      have b0 : decide ((i : Int) < 0) = false := decide_eq_false (by omega)
      have hd1 := trOf_deep (ns := ns) k n.l
      have hd2 := trOf_deep (ns := ns) k n.r
      have hbl : blkI ns (.node (Cp ns k n.l) (i : Int) (Cp ns k n.r)) = (match blkT ns (Cp ns k n.l), blkT ns (Cp ns k n.r) with
       | some a, some b => if a = b ∧ (n.red && (BS ns n.l || BS ns n.r)) = false then (if n.red then (a : Int) else a + 1) else -1
       | _, _ => -1) := by
       unfold blkI
       simp only [blkT, hna]
       cases blkT ns (Cp ns k n.l) with
       | none => rfl
       | some a =>
        cases blkT ns (Cp ns k n.r) with
        | none => rfl
        | some b =>
         by_cases hc : a = b ∧ (n.red && (BS ns n.l || BS ns n.r)) = false
         ·simp only [if_pos hc]
          split <;> simp
         ·simp only [if_neg hc]
      rw [hbl]
      unfold blkI at p1 p2
      have ob : ∀ {l : List Prop}, AI l → AI (blOb k root (i : Int) (A9 ns) n.inn n.red n.v n.l n.r n.u _ _ l) := fun h => A0 b0 (A0 hq (A0 p1 (A0 p2 h)))
      cases h1 : blkT ns (Cp ns k n.l) with
      | none =>
       rw [h1] at ob
       exact A4 (bl_1 k root i _ n.inn n.red n.v n.l n.r n.u _ _) (ob (A0 rfl A2))
      | some a =>
       rw [h1] at ob
       have ha := blkT_le h1
       have na : decide ((a : Int) < 0) = false := decide_eq_false (by omega)
       cases h2 : blkT ns (Cp ns k n.r) with
       | none =>
        rw [h2] at ob
        have : ((a : Int) != -1) = true := by
         simp
        exact A4 (bl_2 k root i _ n.inn n.red n.v n.l n.r n.u _ _) (ob (A0 na (A0 this A2)))
       | some b =>
        rw [h2] at ob
        simp only at ob ⊢
        by_cases hab : a = b
        ·subst hab
         have ne : ((a : Int) != (a : Int)) = false := by simp
         cases hr : n.red with
         | false =>
          rw [hr] at ob
          simp only [Bool.false_and, and_self, if_true, Bool.false_eq_true, if_false]
          exact A4 (bl_3 k root i _ n.inn false n.v n.l n.r n.u _ _ ((a : Int) + 1)) (ob (A0 na (A0 ne (A0 (Ag (i := a) (by omega)) A2))))
         | true =>
          rw [hr] at ob
          cases hl : BS ns n.l with
          | true =>
           rw [hl] at r1
           simp only [Bool.true_or, Bool.true_and, Bool.true_eq_false, and_false, if_false]
           exact A4 (bl_4 k root i _ n.inn true n.v n.l n.r n.u _ _) (ob (A0 na (A0 ne (A0 r1 A2))))
          | false =>
           rw [hl] at r1
           cases hrr : BS ns n.r with
           | true =>
            rw [hrr] at r2
            simp only [Bool.or_true, Bool.true_and, Bool.true_eq_false, and_false, if_false]
            exact A4 (bl_5 k root i _ n.inn true n.v n.l n.r n.u _ _) (ob (A0 na (A0 ne (A0 r1 (A0 r2 A2)))))
           | false =>
            rw [hrr] at r2
            simp only [Bool.or_false, Bool.and_false, and_self, if_true]
            exact A4 (bl_6 k root i _ n.inn true n.v n.l n.r n.u _ _) (ob (A0 na (A0 ne (A0 r1 (A0 r2 A2)))))
        ·have ne : ((a : Int) != (b : Int)) = true := by
          have : ¬ (a : Int) = (b : Int) := by omega
          simpa using this
         rw [if_neg (fun h => hab h.1)]
         exact A4 (bl_2 k root i _ n.inn n.red n.v n.l n.r n.u _ _) (ob (A0 na (A0 ne A2)))
    ·cases hs
   ·cases hs
  ·cases hs
theorem wrapU_mod (n : Int) : IntKind.wrap .u64 n = n % 18446744073709551616 := by
 unfold IntKind.wrap
 simp only [IntKind.signed, IntKind.bits]
 rfl
theorem wrapI_val {n : Int} (h1 : 0 ≤ n) (h2 : n < 18446744073709551616) : IntKind.wrap .i64 n = if n < 9223372036854775808 then n else n - 18446744073709551616 := by
 by_cases h : n < 9223372036854775808
 ·rw [if_pos h]; exact Ch (by omega) h
 ·rw [if_neg h]
  simp only [IntKind.wrap, IntKind.bits, IntKind.signed]
  simp
  split <;> omega
theorem lag_t (v m : Int) : sV C0 82 [pu v, pu m] [(A1 82 10, .b true)] = some ([A5 (IntKind.wrap .i64 (IntKind.wrap .u64 (v - m)))], [], [decide (IntKind.wrap .u64 (v - m) < 9223372036854775808) = true]) := by kernel_rfl
theorem lag_f (v m : Int) : sV C0 82 [pu v, pu m] [(A1 82 10, .b false)] = some ([A5 (IntKind.wrap .i64 (-1 - IntKind.wrap .i64 (IntKind.wrap .u64 (18446744073709551615 - IntKind.wrap .u64 (v - m)))))], [], [decide (IntKind.wrap .u64 (v - m) < 9223372036854775808) = false]) := by kernel_rfl
def lagS : Spec
 | [.one (.v (.int .u64 v)), .one (.v (.int .u64 m))] => some [A5 (BW v m)]
 | _ => none
theorem lag_sat : AJ C0 82 lagS := Af (O := Ab) BN (fun _ _ h => h.elim) Bm fun ps rs hs => by
 unfold lagS at hs
 split at hs
 ·rename_i v m
  cases hs
  by_cases h : IntKind.wrap .u64 (v - m) < 9223372036854775808
  ·exact A4 (lag_t v m) (A0 (decide_eq_true h) A2)
  ·have hd : 0 ≤ IntKind.wrap .u64 (v - m) ∧ IntKind.wrap .u64 (v - m) < 18446744073709551616 := by rw [wrapU_mod]; omega
   have e : BW v m = IntKind.wrap .i64 (-1 - IntKind.wrap .i64 (IntKind.wrap .u64 (18446744073709551615 - IntKind.wrap .u64 (v - m)))) := by
    unfold BW
    generalize IntKind.wrap .u64 (v - m) = d at h hd
    rw [B1 (by omega) (by omega), Ch (n := 18446744073709551615 - d) (by omega) (by omega), Ch (n := -1 - _) (by omega) (by omega), wrapI_val hd.1 hd.2, if_neg h]
    omega
   rw [e]
   exact A4 (lag_f v m) (A0 (decide_eq_false h) A2)
 ·cases hs
theorem lagS_at (v m : Int) : lagS [pu v, pu m] = some [A5 (BW v m)] := rfl
noncomputable def CLe : Ctx := Ad C0 82 lagS
theorem hPLe : Aw CLe := A7 BN (lag_sat.ctx rfl rfl) (by kernel_rfl)
def leA (m v i w j : Int) : List PV := [pu m, .agg [du v, di i], .agg [du w, di j]]
def leOb (m v w p q : Int) (l : List Prop) : List Prop := (lagS [pu v, pu m] = some [A5 p]) :: (lagS [pu w, pu m] = some [A5 q]) :: l
theorem le_1 (m v i w j p q : Int) : sV CLe 178 (leA m v i w j) [(A1 178 12, .prim [A5 p]), (A1 178 16, .prim [A5 q]), (A1 178 19, .b true)] = some ([A3 true], [], leOb m v w p q [decide (p < q) = true]) := by kernel_rfl
theorem le_2 (m v i w j p q : Int) : sV CLe 178 (leA m v i w j) [(A1 178 12, .prim [A5 p]), (A1 178 16, .prim [A5 q]), (A1 178 19, .b false), (A1 178 23, .b false)] = some ([A3 false], [], leOb m v w p q [decide (p < q) = false, (p == q) = false]) := by kernel_rfl
theorem le_3 (m v i w j p q : Int) (z : Bool) : sV CLe 178 (leA m v i w j) [(A1 178 12, .prim [A5 p]), (A1 178 16, .prim [A5 q]), (A1 178 19, .b false), (A1 178 23, .b true), (A1 178 29, .b z)] = some ([A3 z], [], leOb m v w p q [decide (p < q) = false, (p == q) = true, decide (i < j) = z]) := by kernel_rfl
def kyR : List DV → Option Ky
 | [.v (.int .u64 v), .v (.int .i64 i)] => if 0 ≤ v ∧ v < 2 ^ 64 then some (v.toNat, i) else none
 | _ => none
theorem kyR_eq {r : List DV} {k : Ky} (h : kyR r = some k) : r = kD k := by
 unfold kyR at h
 split at h
 ·rename_i v i
  split at h
  ·rename_i hc
   obtain ⟨m, rfl⟩ := Int.eq_ofNat_of_zero_le hc.1
   simp only [Option.some.injEq, Int.toNat_natCast] at h
   subst h
   rfl
  ·cases h
 ·cases h
theorem kyR_kD {k : Ky} (h : k.1 < 2 ^ 64) : kyR (kD k) = some k := by
 have : (0 : Int) ≤ (k.1 : Int) ∧ (k.1 : Int) < 2 ^ 64 := ⟨by omega, by exact_mod_cast h⟩
 simp only [kyR, kD, du, di]
 rw [if_pos this, Int.toNat_natCast]
theorem krows_of {rows : A8} {l : List Ky} (h : Ae kyR rows = some l) : rows = Ai l := by
 induction rows generalizing l with
 | nil => simp only [Ae, Option.some.injEq] at h; subst h; rfl
 | cons r rows ih =>
  simp only [Ae] at h
  cases hx : kyR r with
  | none => simp [hx] at h
  | some x =>
   cases hy : Ae kyR rows with
   | none => simp [hx, hy] at h
   | some y =>
    simp only [hx, hy, Option.some.injEq] at h
    subst h
    rw [ih hy, kyR_eq hx]; rfl
theorem kyR_krows {l : List Ky} (h : ∀ k ∈ l, k.1 < 2 ^ 64) : Ae kyR (Ai l) = some l := by
 induction l with
 | nil => rfl
 | cons a l ih =>
  have e := ih (fun n hn => h n (List.mem_cons_of_mem _ hn))
  have e2 : Ae kyR (l.map kD) = some l := e
  simp only [Ai, List.map_cons, Ae, kyR_kD (h a (List.mem_cons_self ..)), e2]
def lessV (m : Int) : Option Ky → Option Ky → Option (List PV)
 | some x, some y => if 0 ≤ m ∧ m < 2 ^ 64 then some [A3 (BB m.toNat x y)] else none
 | _, _ => none
def lessS : Spec
 | [.one (.v (.int .u64 m)), .agg a, .agg b] => lessV m (kyR a) (kyR b)
 | _ => none
theorem less_val (m : Nat) (x y : Ky) {z : Bool} (h1 : decide (BW x.1 m < BW y.1 m) = false) (h2 : (BW x.1 m == BW y.1 m) = true) (hz : decide (x.2 < y.2) = z) : BB m x y = z := by
 unfold BB; rw [h1, h2, hz]; rfl
theorem less_sat : AJ C0 178 lessS := AJ.ctx (C := CLe) rfl rfl (Af (O := Ab) hPLe (fun _ _ h => h.elim) Bm fun ps rs hs => by
 unfold lessS at hs
 split at hs
 ·rename_i m a b
  unfold lessV at hs
  split at hs
  ·rename_i x y h1 h2
   split at hs
   ·rename_i hc
    obtain ⟨mn, rfl⟩ := Int.eq_ofNat_of_zero_le hc.1
    simp only [Option.some.injEq, Int.toNat_natCast] at hs
    subst hs
    have ea := kyR_eq h1; have eb := kyR_eq h2
    subst ea; subst eb
    obtain ⟨v, i⟩ := x; obtain ⟨w, j⟩ := y
    have ob : ∀ {l : List Prop}, AI l → AI (leOb mn v w (BW v mn) (BW w mn) l) := fun h => A0 (lagS_at _ _) (A0 (lagS_at _ _) h)
    cases c1 : decide (BW v mn < BW w mn) with
    | true =>
     have : BB mn (v, i) (w, j) = true := by simp only [BB, c1, Bool.true_or]
     rw [this]
     exact A4 (le_1 mn v i w j _ _) (ob (A0 c1 A2))
    | false =>
     cases c2 : (BW v mn == BW w mn) with
     | false =>
      have : BB mn (v, i) (w, j) = false := by simp only [BB, c1, c2, Bool.false_and, Bool.or_false]
      rw [this]
      exact A4 (le_2 mn v i w j _ _) (ob (A0 c1 (A0 c2 A2)))
     | true =>
      rw [less_val mn (v, i) (w, j) c1 c2 rfl]
      exact A4 (le_3 mn v i w j _ _ _) (ob (A0 c1 (A0 c2 (A0 rfl A2))))
   ·cases hs
  ·cases hs
 ·cases hs)
noncomputable def CSd : Ctx := Ad C0 178 lessS
theorem hPSd : Aw CSd := A7 BN (less_sat.ctx rfl rfl) (by kernel_rfl)
def sdO (m : Int) (rows : A8) (i : Int) : St := { σ := Ap 44 [(0, .d (.v (.int .u64 m))), (1, .d (.mn 2 rows)), (5, vi i)], h := {} }
def sdI (m : Int) (rows : A8) (i k : Int) : St := { σ := Ap 44 [(0, .d (.v (.int .u64 m))), (1, .d (.mn 2 rows)), (5, vi i), (6, vi k)], h := {} }
def sdEnd : St := { σ := Ap 44 [], h := {} }
def sdRet : St := { σ := Ap 44 [(4, vb false)], h := {} }
theorem si_exit (m i k : Int) (rows : A8) : sM CSd 197 1 (sdI m rows i k) [(A1 197 16, .b false)] [0, 1, 5] = some ((.exit 2, sdO m rows i), [], [decide (k < i) = false]) := by kernel_rfl
def siScr (v x w y : Int) (l : Ah) : Ah := (A1 197 16, .b true) :: (A1 197 22, .row [du v, di x]) :: (A1 197 26, .row [du w, di y]) :: l
def siOb (m i k : Int) (rows : A8) (v x w y : Int) (z : Bool) (l : List Prop) : List Prop := (decide (k < i) = true) :: (0 ≤ k ∧ rows[k.toNat]? = some [du v, di x]) :: (0 ≤ i ∧ rows[i.toNat]? = some [du w, di y]) :: (lessS [pu m, .agg [du v, di x], .agg [du w, di y]] = some [A3 z]) :: l
theorem si_1 (m i k v x w y : Int) (rows : A8) : sM CSd 197 1 (sdI m rows i k) (siScr v x w y [(A1 197 28, .prim [A3 false])]) [4] = some ((.ret, sdRet), [], siOb m i k rows v x w y false []) := by kernel_rfl
theorem si_2 (m i k v x w y : Int) (rows : A8) : sM CSd 197 1 (sdI m rows i k) (siScr v x w y [(A1 197 28, .prim [A3 true]), (A1 197 34, .row [du v, di x]), (A1 197 39, .row [du w, di y]), (A1 197 42, .b true)]) [4] = some ((.ret, sdRet), [], siOb m i k rows v x w y true [0 ≤ k ∧ rows[k.toNat]? = some [du v, di x], 0 ≤ i ∧ rows[i.toNat]? = some [du w, di y], (x == y) = true]) := by kernel_rfl
theorem si_3 (m i k k' v x w y : Int) (rows : A8) (X : X) (st : St) : AY CSd Ab 60 (Lp 197 1 (sdI m rows i k)) (siScr v x w y [(A1 197 28, .prim [A3 true]), (A1 197 34, .row [du v, di x]), (A1 197 39, .row [du w, di y]), (A1 197 42, .b false), (A1 197 18, .int k'), (A1 197 8001, .loop [0, 1, 5, 6] X st)]) =
  some (.code X st, [], siOb m i k rows v x w y true [0 ≤ k ∧ rows[k.toNat]? = some [du v, di x], 0 ≤ i ∧ rows[i.toNat]? = some [du w, di y], (x == y) = false, IntKind.wrap .i64 (k + 1) = k', Ev CSd Ab (Lp 197 1 (sdI m rows i k')) (.code X st)]) := by kernel_rfl
theorem so_exit (m i : Int) (rows : A8) : sM CSd 197 0 (sdO m rows i) [(A1 197 11, .b false)] [] = some ((.exit 0, sdEnd), [], [decide (i < (rows.length : Int)) = false]) := by kernel_rfl
theorem so_bad (m i : Int) (rows : A8) : sM CSd 197 0 (sdO m rows i) [(A1 197 11, .b true), (A1 197 8001, .loop [0, 1, 5, 6] .ret sdRet)] [4] = some ((.ret, sdRet), [], [decide (i < (rows.length : Int)) = true, Ev CSd Ab (Lp 197 1 (sdI m rows i 0)) (.code .ret sdRet)]) := by kernel_rfl
theorem so_step (m i i' : Int) (rows : A8) (X : X) (st : St) : AY CSd Ab 60 (Lp 197 0 (sdO m rows i)) [(A1 197 11, .b true), (A1 197 8001, .loop [0, 1, 5, 6] (.exit 2) (sdO m rows i)), (A1 197 13, .int i'), (A1 197 8001, .loop [0, 1, 5] X st)] =
  some (.code X st, [], [decide (i < (rows.length : Int)) = true, Ev CSd Ab (Lp 197 1 (sdI m rows i 0)) (.code (.exit 2) (sdO m rows i)), IntKind.wrap .i64 (i + 1) = i', Ev CSd Ab (Lp 197 0 (sdO m rows i')) (.code X st)]) := by kernel_rfl
theorem sd_t (m : Int) (rows : A8) : sV CSd 197 [pu m, .one (.mn 2 rows)] [(A1 197 8001, .loop [0, 1, 5] (.exit 0) sdEnd)] = some ([A3 true], [], [Ev CSd Ab (Lp 197 0 (sdO m rows 0)) (.code (.exit 0) sdEnd)]) := by kernel_rfl
theorem sd_f (m : Int) (rows : A8) : sV CSd 197 [pu m, .one (.mn 2 rows)] [(A1 197 8001, .loop [0, 1, 5] .ret sdRet)] = some ([A3 false], [], [Ev CSd Ab (Lp 197 0 (sdO m rows 0)) (.code .ret sdRet)]) := by kernel_rfl
theorem krows_at {l : List Ky} {i : Nat} (h : i < l.length) : (Ai l)[((i : Nat) : Int).toNat]? = some (kD (kAt l i)) := by simp [Ai, kAt, h]
theorem kAt_lt {l : List Ky} (h : ∀ k ∈ l, k.1 < 2 ^ 64) (i : Nat) : (kAt l i).1 < 2 ^ 64 := by
 unfold kAt
 cases hi : l[i]? with
 | none => show (0 : Nat) < 2 ^ 64; decide
 | some k => exact h k (List.mem_of_getElem? hi)
theorem lessS_at {m : Nat} {x y : Ky} (hm : m < 2 ^ 64) (hx : x.1 < 2 ^ 64) (hy : y.1 < 2 ^ 64) : lessS [pu m, .agg (kD x), .agg (kD y)] = some [A3 (BB m x y)] := by
 have : (0 : Int) ≤ (m : Int) ∧ (m : Int) < 2 ^ 64 := ⟨by omega, by exact_mod_cast hm⟩
 show lessV m (kyR (kD x)) (kyR (kD y)) = _
 rw [kyR_kD hx, kyR_kD hy]
 unfold lessV
 simp only
 rw [if_pos this, Int.toNat_natCast]
def siRes (m : Int) (rows : A8) (i : Int) (ok : Bool) : X × St := if ok then (.exit 2, sdO m rows i) else (.ret, sdRet)
def soRes (ok : Bool) : X × St := if ok then (.exit 0, sdEnd) else (.ret, sdRet)
def okDk (m : Nat) (l : List Ky) (i k : Nat) : Bool := BB m (kAt l k) (kAt l i) && ((kAt l k).2 != (kAt l i).2)
theorem si_loop (m : Nat) (hm : m < 2 ^ 64) (l : List Ky) (hl : l.length < 2 ^ 30) (hv : ∀ k ∈ l, k.1 < 2 ^ 64) (i : Nat) (hi : i < l.length) : ∀ (d k : Nat), k + d = i →
  Ev CSd Ab (Lp 197 1 (sdI m (Ai l) i k)) (.code (siRes m (Ai l) i (((List.range i).drop k).all (okDk m l i))).1 (siRes m (Ai l) i (((List.range i).drop k).all (okDk m l i))).2)
 | 0, k, h => by
  have : (List.range i).drop k = [] := List.drop_eq_nil_of_le (by simp; omega)
  rw [this]
  exact Ac (si_exit _ _ _ _) (A0 (dge (by omega)) A2)
 | d + 1, k, h => by
  have hki : k < i := by omega
  have hd : (List.range i).drop k = k :: (List.range i).drop (k + 1) := by
   have := List.drop_eq_getElem_cons (l := List.range i) (i := k) (by simpa using hki)
   simpa using this
  have ih := si_loop m hm l hl hv i hi d (k + 1) (by omega)
  have h1 : 0 ≤ (k : Int) ∧ (Ai l)[((k : Int)).toNat]? = some (kD (kAt l k)) := ⟨by omega, krows_at (by omega)⟩
  have h2 : 0 ≤ (i : Int) ∧ (Ai l)[((i : Int)).toNat]? = some (kD (kAt l i)) := ⟨by omega, krows_at hi⟩
  have hs := lessS_at hm (kAt_lt hv k) (kAt_lt hv i)
  rw [hd, List.all_cons]
  have ob : ∀ {z : Bool} {lp : List Prop}, BB m (kAt l k) (kAt l i) = z → AI lp → AI (siOb m i k (Ai l) (kAt l k).1 (kAt l k).2 (kAt l i).1 (kAt l i).2 z lp) := fun hz hL =>
   A0 (dlt hki) (A0 h1 (A0 h2 (A0 (by rw [← hz]; exact hs) hL)))
  cases c1 : BB m (kAt l k) (kAt l i) with
  | false =>
   have : okDk m l i k = false := by unfold okDk; rw [c1]; rfl
   rw [this, Bool.false_and]
   exact Ac (si_1 m i k _ _ _ _ _) (ob c1 A2)
  | true =>
   cases c2 : ((kAt l k).2 == (kAt l i).2) with
   | true =>
    have : okDk m l i k = false := by unfold okDk; rw [c1, bne, c2]; rfl
    rw [this, Bool.false_and]
    exact Ac (si_2 m i k _ _ _ _ _) (ob c1 (A0 h1 (A0 h2 (A0 c2 A2))))
   | false =>
    have : okDk m l i k = true := by unfold okDk; rw [c1, bne, c2]; rfl
    rw [this, Bool.true_and]
    exact Aa _ _ _ _ _ _ (si_3 m i k ((k + 1 : Nat) : Int) _ _ _ _ _ _ _) (ob c1 (A0 h1 (A0 h2 (A0 c2 (A0 (Ag (by omega)) (A0 ih A2))))))
theorem so_loop (m : Nat) (hm : m < 2 ^ 64) (l : List Ky) (hl : l.length < 2 ^ 30) (hv : ∀ k ∈ l, k.1 < 2 ^ 64) : ∀ (d i : Nat), i + d = l.length →
  Ev CSd Ab (Lp 197 0 (sdO m (Ai l) i)) (.code (soRes (((List.range l.length).drop i).all (okD m l))).1 (soRes (((List.range l.length).drop i).all (okD m l))).2)
 | 0, i, h => by
  have : (List.range l.length).drop i = [] := List.drop_eq_nil_of_le (by simp; omega)
  rw [this]
  exact Ac (so_exit _ _ _) (A0 (by rw [AU]; exact dge (by omega)) A2)
 | d + 1, i, h => by
  have hi : i < l.length := by omega
  have hd : (List.range l.length).drop i = i :: (List.range l.length).drop (i + 1) := by
   have := List.drop_eq_getElem_cons (l := List.range l.length) (i := i) (by simpa using hi)
   simpa using this
  have ih := so_loop m hm l hl hv d (i + 1) (by omega)
  have hin := si_loop m hm l hl hv i hi i 0 (by omega)
  rw [List.drop_zero] at hin
  have hok : (List.range i).all (okDk m l i) = okD m l i := rfl
  rw [hok] at hin
  have hb : decide ((i : Int) < ((Ai l).length : Int)) = true := by rw [AU]; exact dlt hi
  rw [hd, List.all_cons]
  cases c : okD m l i with
  | false =>
   rw [c] at hin
   rw [Bool.false_and]
   exact Ac (so_bad m i _) (A0 hb (A0 hin A2))
  | true =>
   rw [c] at hin
   rw [Bool.true_and]
   exact Aa _ _ _ _ _ _ (so_step m i ((i + 1 : Nat) : Int) _ _ _) (A0 hb (A0 hin (A0 (Ag (by omega)) (A0 ih A2))))
def sortS : Spec
 | [.one (.v (.int .u64 m)), .one (.mn 2 rows)] => match Ae kyR rows with
  | some l => if 0 ≤ m ∧ m < 2 ^ 64 ∧ l.length < 2 ^ 30 then some [A3 (sortedK m.toNat l)] else none
  | none => none
 | _ => none
theorem kyR_lt {rows : A8} {l : List Ky} (h : Ae kyR rows = some l) : ∀ k ∈ l, k.1 < 2 ^ 64 := by
 induction rows generalizing l with
 | nil => simp only [Ae, Option.some.injEq] at h; subst h; intro k hk; cases hk
 | cons r rows ih =>
  simp only [Ae] at h
  cases hx : kyR r with
  | none => simp [hx] at h
  | some x =>
   cases hy : Ae kyR rows with
   | none => simp [hx, hy] at h
   | some y =>
    simp only [hx, hy, Option.some.injEq] at h
    subst h
    intro k hk
    rcases List.mem_cons.1 hk with rfl | hk
    ·unfold kyR at hx
     split at hx
     ·split at hx
      ·rename_i hc
       simp only [Option.some.injEq] at hx
       subst hx
       show Int.toNat _ < 2 ^ 64
       omega
      ·cases hx
     ·cases hx
    ·exact ih hy k hk
theorem sorted_sat : AJ C0 197 sortS := AJ.ctx (C := CSd) rfl rfl (Af (O := Ab) hPSd (fun _ _ h => h.elim) Bm fun ps rs hs => by
 unfold sortS at hs
 split at hs
 ·rename_i m rows
  split at hs
  ·rename_i l hl
   split at hs
   ·rename_i hc
    obtain ⟨mn, rfl⟩ := Int.eq_ofNat_of_zero_le hc.1
    have hm : mn < 2 ^ 64 := by have := hc.2.1; exact_mod_cast this
    simp only [Option.some.injEq, Int.toNat_natCast] at hs
    subst hs
    have hv := kyR_lt hl
    obtain rfl := krows_of hl
    have hk := so_loop mn hm l hc.2.2 hv l.length 0 (by omega)
    rw [List.drop_zero, ← sortedK_eq] at hk
    cases c : sortedK mn l with
    | true => rw [c] at hk; exact A4 (sd_t mn _) (A0 hk A2)
    | false => rw [c] at hk; exact A4 (sd_f mn _) (A0 hk A2)
   ·cases hs
  ·cases hs
 ·cases hs)
theorem sortS_at {m : Nat} {l : List Ky} (hm : m < 2 ^ 64) (hl : l.length < 2 ^ 30) (hv : ∀ k ∈ l, k.1 < 2 ^ 64) : sortS [pu m, .one (.mn 2 (Ai l))] = some [A3 (sortedK m l)] := by
 have : (0 : Int) ≤ (m : Int) ∧ (m : Int) < 2 ^ 64 ∧ l.length < 2 ^ 30 := ⟨by omega, by exact_mod_cast hm, hl⟩
 simp only [sortS, pu, kyR_krows hv]
 rw [if_pos this, Int.toNat_natCast]
def treeR (root : Int) (ns : List Nod) (m : Nat) : Bool := match ordO root ns with
 | none => false
 | some _ => !BS ns root && (decide (0 ≤ blkI ns (Cp ns 64 root)) && sortedK m (keysO root ns))
noncomputable def CTr : Ctx := Ad (Ad (Ad (Ad (Ad C0 194 orS) 195 redS) 196 (blS 64)) 198 waS) 197 sortS
theorem hPTr : Aw CTr := A7 (A7 (A7 (A7 (A7 BN (order_sat.ctx rfl rfl) (by kernel_rfl)) (red_sat.ctx rfl rfl) (by kernel_rfl)) ((bl_sat 64).ctx rfl rfl) (by kernel_rfl)) (walkD_sat.ctx rfl rfl) (by kernel_rfl)) (sorted_sat.ctx rfl rfl) (by kernel_rfl)
def trA (root m : Int) (rows : A8) : List PV := [.agg [di root, .mn 6 rows], pu m]
theorem tr_no (root m : Int) (rows ls : A8) : sV CTr 152 (trA root m rows) [(A1 152 9, .prim [.one (.mn 1 ls), A3 false])] = some ([A3 false], [], [orS [.agg [di root, .mn 6 rows]] = some [.one (.mn 1 ls), A3 false]]) := by kernel_rfl
def trOb (root : Int) (rows ls : A8) (r : Bool) (l : List Prop) : List Prop := (orS [.agg [di root, .mn 6 rows]] = some [.one (.mn 1 ls), A3 true]) :: (redS [.agg [di root, .mn 6 rows], A5 root] = some [A3 r]) :: l
theorem tr_red (root m : Int) (rows ls : A8) : sV CTr 152 (trA root m rows) [(A1 152 9, .prim [.one (.mn 1 ls), A3 true]), (A1 152 18, .prim [A3 true])] = some ([A3 false], [], trOb root rows ls true []) := by kernel_rfl
theorem tr_bl (root m p : Int) (rows ls : A8) : sV CTr 152 (trA root m rows) [(A1 152 9, .prim [.one (.mn 1 ls), A3 true]), (A1 152 18, .prim [A3 false]), (A1 152 23, .prim [A5 p]), (A1 152 24, .b false)] = some ([A3 false], [], trOb root rows ls false [blS 64 [.agg [di root, .mn 6 rows], A5 root] = some [A5 p], decide (p ≥ 0) = false]) := by kernel_rfl
theorem tr_ok (root m p : Int) (rows ls ks : A8) (z : Bool) : sV CTr 152 (trA root m rows) [(A1 152 9, .prim [.one (.mn 1 ls), A3 true]), (A1 152 18, .prim [A3 false]), (A1 152 23, .prim [A5 p]), (A1 152 24, .b true), (A1 152 28, .prim [.one (.mn 2 ks)]), (A1 152 29, .prim [A3 z])] =
  some ([A3 z], [], trOb root rows ls false [blS 64 [.agg [di root, .mn 6 rows], A5 root] = some [A5 p], decide (p ≥ 0) = true, waS [.agg [di root, .mn 6 rows]] = some [.one (.mn 2 ks)], sortS [pu m, .one (.mn 2 ks)] = some [A3 z]]) := by kernel_rfl
def treS : Spec
 | [.agg [.v (.int .i64 root), .mn 6 rows], .one (.v (.int .u64 m))] => match Ae nodR rows with
  | some ns => if 0 ≤ m ∧ m < 2 ^ 64 then some [A3 (treeR root ns m.toNat)] else none
  | none => none
 | _ => none
theorem treS_at {root : Int} {ns : List Nod} {m : Nat} (hv : ∀ n ∈ ns, n.v < 2 ^ 64) (hm : m < 2 ^ 64) : treS [.agg [di root, .mn 6 (A9 ns)], pu m] = some [A3 (treeR root ns m)] := by
 have : (0 : Int) ≤ (m : Int) ∧ (m : Int) < 2 ^ 64 := ⟨by omega, by exact_mod_cast hm⟩
 simp only [treS, di, pu, C8 hv]
 rw [if_pos this, Int.toNat_natCast]
theorem nodAt_lt {ns : List Nod} {x : Int} {n : Nod} (hv : ∀ n ∈ ns, n.v < 2 ^ 64) (h : Bk ns x = some n) : n.v < 2 ^ 64 := by
 obtain ⟨i, -, -, hi⟩ := C9 h
 exact hv _ (List.mem_of_getElem? hi)
theorem keysO_lt {root : Int} {ns : List Nod} (hv : ∀ n ∈ ns, n.v < 2 ^ 64) : ∀ k ∈ keysO root ns, k.1 < 2 ^ 64 := fun k hk => by
 unfold keysO at hk
 split at hk
 ·rename_i l ho
  obtain ⟨x, hx, rfl⟩ := List.mem_map.1 hk
  obtain ⟨i, n, -, hi, hky⟩ := ordO_at ho x hx
  rw [hky]
  exact hv _ (List.mem_of_getElem? hi)
 ·cases hk
theorem keysO_len {root : Int} {ns : List Nod} : (keysO root ns).length ≤ 64 := by
 unfold keysO
 split
 ·rename_i l ho
  obtain ⟨h1, h2, -⟩ := ordO_tree ho
  rw [List.length_map]; omega
 ·exact Nat.zero_le _
theorem treeD_sat : AJ C0 152 treS := AJ.ctx (C := CTr) rfl rfl (Af (O := Ab) hPTr (fun _ _ h => h.elim) Bm fun ps rs hs => by
 unfold treS at hs
 split at hs
 ·rename_i root rows m
  split at hs
  ·rename_i ns hn
   split at hs
   ·rename_i hc
    obtain ⟨mn, rfl⟩ := Int.eq_ofNat_of_zero_le hc.1
    have hm : mn < 2 ^ 64 := by have := hc.2; exact_mod_cast this
    simp only [Option.some.injEq, Int.toNat_natCast] at hs
    subst hs
    obtain ⟨rfl, hv⟩ := nrows_of hn
    have hp := orS_at (root := root) hv
    unfold treeR
    cases ho : ordO root ns with
    | none =>
     rw [ho] at hp
     exact A4 (tr_no root mn _ _) (A0 hp A2)
    | some l =>
     rw [ho] at hp
     obtain ⟨h64, -, t, hI, -, -, hpl⟩ := ordO_tree ho
     have hdeep := t.deep_le
     have htr : Cp ns 64 root = t := trOf_eq 64 t root (-1) hI (by omega)
     have hb : isB ns (Cp ns 64 root) root = true := by rw [htr]; exact hI.b
     have hr := redS_at (root := root) hv (isB_root hb)
     have hbl := blS_at (root := root) hv (by omega) hb
     have hwa := waS_at (root := root) hv
     have hso := sortS_at hm (by have := keysO_len (root := root) (ns := ns); omega) (keysO_lt (root := root) hv)
     simp only
     cases c1 : BS ns root with
     | true =>
      rw [c1] at hr
      exact A4 (tr_red root mn _ _) (A0 hp (A0 hr A2))
     | false =>
      rw [c1] at hr
      by_cases c2 : 0 ≤ blkI ns (Cp ns 64 root)
      ·rw [decide_eq_true c2]
       exact A4 (tr_ok root mn _ _ _ _ _) (A0 hp (A0 hr (A0 hbl (A0 (decide_eq_true (by omega)) (A0 hwa (A0 hso A2))))))
      ·rw [decide_eq_false c2]
       exact A4 (tr_bl root mn _ _ _) (A0 hp (A0 hr (A0 hbl (A0 (decide_eq_false (by omega)) A2))))
   ·cases hs
  ·cases hs
 ·cases hs)
theorem Av {n by_ : Nat} (hn : n < 2 ^ 30) (hb : by_ ≤ 1024) : Am n 1 by_ := by
 have h1 : (2 * (n + 1) + 1000) * by_ ≤ (2 * (n + 1) + 1000) * 1024 := Nat.mul_le_mul_left _ hb
 have h2 : n ≤ 1073741823 := Nat.le_of_lt_succ hn
 have h3 : (2 * (n + 1) + 1000) * 1024 ≤ (2 * (1073741823 + 1) + 1000) * 1024 := Nat.mul_le_mul_right _ (by omega)
 exact Nat.le_trans h1 (Nat.le_trans h3 (of_decide_eq_true rfl))
theorem Bd (sz s : Nat) (r x : List DV) (l : A8) : apR sz s (r :: l ++ [x]) = .st sz (r :: l ++ [x]) s (2 * l.length + 1 + 1 + 1) ∧ Ct s (r :: l ++ [x]) = [(s, 2 * l.length + 1 + 1 + 1)] := by
 constructor <;> simp [apR, Ct] <;> omega
def llH (head : Int) (next : A8) (t : AC) : H := { objs := [(A1 155 1, 1, [.cells [vi head, .d (.mn 1 next)] false])], toks := t }
def llHd (head : Int) (next : A8) (a : AV) (t : AC) (x : Int) : St := { σ := Ap 58 [(1, .ptr (A1 155 1) 0 0), (4, a), (5, vi x)], h := llH head next t }
def llOut (head : Int) (next : A8) (a : AV) (t : AC) : St := { σ := Ap 58 [(1, .ptr (A1 155 1) 0 0), (4, a)], h := llH head next t }
def llRet (head : Int) (next : A8) (t : AC) : St := { σ := Ap 58 [(2, .d dnil), (3, vb false)], h := llH head next t }
theorem ll_exit (head x : Int) (next : A8) (a : AV) (t : AC) : sM CI 155 0 (llHd head next a t x) [(A1 155 15, .b false)] [1, 4] = some ((.exit 0, llOut head next a t), [], [(x != -1) = false]) := by kernel_rfl
theorem ll_neg (head x : Int) (next : A8) (a : AV) (t : AC) : sM CI 155 0 (llHd head next a t x) [(A1 155 15, .b true), (A1 155 17, .b true)] [2, 3] = some ((.ret, llRet head next t), [], [(x != -1) = true, decide (x < 0) = true]) := by kernel_rfl
theorem ll_big (head x : Int) (next : A8) (a : AV) (t : AC) : sM CI 155 0 (llHd head next a t x) [(A1 155 15, .b true), (A1 155 17, .b false), (A1 155 23, .b true)] [2, 3] = some ((.ret, llRet head next t), [], [(x != -1) = true, decide (x < 0) = false, decide (x ≥ (next.length : Int)) = true]) := by kernel_rfl
theorem ll_met (head x : Int) (next rows : A8) (g : Nat) (t : AC) : sM CI 155 0 (llHd head next (.st 1 rows (A1 155 33) g) t x) [(A1 155 15, .b true), (A1 155 17, .b false), (A1 155 23, .b false), (A1 155 28, .prim [A3 true])] [2, 3] = some ((.ret, llRet head next t), [], [(x != -1) = true, decide (x < 0) = false, decide (x ≥ (next.length : Int)) = false, inS [.one (.sl 1 false rows), A5 x] = some [A3 true]]) := by kernel_rfl
theorem ll_nil (head x y : Int) (next : A8) (X : X) (st : St) : AY CI Ab 60 (Lp 155 0 (llHd head next (.d dnil) [] x)) [(A1 155 15, .b true), (A1 155 17, .b false), (A1 155 23, .b false), (A1 155 28, .prim [A3 false]), (A1 155 33, .app false), (A1 155 37, .row [di y]), (A1 155 8001, .loop [1, 4, 5] X st)] =
  some (.code X st, [], [(x != -1) = true, decide (x < 0) = false, decide (x ≥ (next.length : Int)) = false, inS [.one dnil, A5 x] = some [A3 false], false = false ∧ Am 0 1 8, 0 ≤ x ∧ next[x.toNat]? = some [di y], Ev CI Ab (Lp 155 0 (llHd head next (.st 1 [[di x]] (A1 155 33) 1) [(A1 155 33, 1)] y)) (.code X st)]) := by kernel_rfl
theorem ll_st (head x y : Int) (next rows : A8) (g : Nat) (X : X) (st : St) : AY CI Ab 60 (Lp 155 0 (llHd head next (.st 1 rows (A1 155 33) g) [(A1 155 33, g)] x)) [(A1 155 15, .b true), (A1 155 17, .b false), (A1 155 23, .b false), (A1 155 28, .prim [A3 false]), (A1 155 33, .app false), (A1 155 37, .row [di y]), (A1 155 8001, .loop [1, 4, 5] X st)] =
  some (.code X st, [], [(x != -1) = true, decide (x < 0) = false, decide (x ≥ (next.length : Int)) = false, inS [.one (.sl 1 false rows), A5 x] = some [A3 false], false = false ∧ g = g ∧ Am rows.length 1 8, 0 ≤ x ∧ next[x.toNat]? = some [di y], Ev CI Ab (Lp 155 0 (llHd head next (.st 1 (rows ++ [[di x]]) (A1 155 33) (g + 1 + 1)) [(A1 155 33, g + 1 + 1)] y)) (.code X st)]) := by kernel_rfl
def llA (out : List Int) : AV := apR 1 (A1 155 33) (A6 out)
def llT (out : List Int) : AC := Ct (A1 155 33) (A6 out)
def LL (head : Int) (next : List Int) (k : Nat) (x : Int) (out : List Int) : Prop := match lwalk next k x out with
 | some o => o.length ≤ next.length ∧ Ev CI Ab (Lp 155 0 (llHd head (A6 next) (llA out) (llT out) x)) (.code (.exit 0) (llOut head (A6 next) (llA o) (llT o)))
 | none => ∃ t, Ev CI Ab (Lp 155 0 (llHd head (A6 next) (llA out) (llT out) x)) (.code .ret (llRet head (A6 next) t))
theorem ll_loop (head : Int) (next : List Int) (hn : next.length ≤ 64) : ∀ (k : Nat) (x : Int) (out : List Int), left next.length out < k → out.length + left next.length out ≤ next.length → LL head next k x out
 | 0, x, out, h, _ => by omega
 | k + 1, x, out, h, hb => by
  unfold LL lwalk
  by_cases h1 : x = -1
  ·rw [if_pos h1]
   exact ⟨by omega, Ac (ll_exit _ _ _ _ _) (A0 (by simp [h1]) A2)⟩
  rw [if_neg h1]
  have b1 : (x != -1) = true := by simpa using h1
  by_cases h2 : x < 0
  ·rw [if_pos (.inl h2)]
   exact ⟨_, Ac (ll_neg _ _ _ _ _) (A0 b1 (A0 (decide_eq_true h2) A2))⟩
  by_cases h3 : (next.length : Int) ≤ x
  ·rw [if_pos (.inr (.inl h3))]
   exact ⟨_, Ac (ll_big _ _ _ _ _) (A0 b1 (A0 (decide_eq_false h2) (A0 (decide_eq_true (by rw [Ax]; omega)) A2)))⟩
  have b3 : decide (x ≥ ((A6 next).length : Int)) = false := decide_eq_false (by rw [Ax]; omega)
  have hin : ∀ t, out.contains x = t → inS [.one (rowD 1 (A6 out)), A5 x] = some [A3 t] := fun t ht => by rw [inS_row _ _ (by omega), ht]
  by_cases h4 : out.contains x = true
  ·rw [if_pos (.inr (.inr h4))]
   have hi := hin true h4
   cases out with
   | nil => simp at h4
   | cons a l => exact ⟨_, Ac (ll_met _ _ _ _ _ _) (A0 b1 (A0 (decide_eq_false h2) (A0 b3 (A0 hi A2))))⟩
  have h4' : out.contains x = false := by simpa using h4
  rw [if_neg (by rintro (h | h | h) <;> contradiction)]
  obtain ⟨m, rfl⟩ := Int.eq_ofNat_of_zero_le (show 0 ≤ x by omega)
  have hm : m < next.length := by omega
  have hlt := left_lt hm h4'
  have ih := ll_loop head next hn k ((next[((m : Nat) : Int).toNat]?).getD 0) (out ++ [(m : Int)]) (by omega) (by simp only [List.length_append, List.length_singleton]; omega)
  have hy : next[((m : Nat) : Int).toNat]? = some next[m] := by simp [hm]
  rw [hy] at ih ⊢
  simp only [Option.getD_some] at ih ⊢
  have hrow : 0 ≤ (m : Int) ∧ (A6 next)[((m : Int)).toNat]? = some [di next[m]] := ⟨by omega, B2 (List.getElem?_eq_getElem hm)⟩
  have hi := hin false h4'
  unfold LL at ih
  cases out with
  | nil =>
   have go : ∀ X st, Ev CI Ab (Lp 155 0 (llHd head (A6 next) (llA ([] ++ [(m : Int)])) (llT ([] ++ [(m : Int)])) next[m])) (.code X st) → Ev CI Ab (Lp 155 0 (llHd head (A6 next) (llA []) (llT []) (m : Int))) (.code X st) := fun X st he =>
    Aa _ _ _ _ _ _ (ll_nil _ _ _ _ _ _) (A0 b1 (A0 (decide_eq_false h2) (A0 b3 (A0 hi (A0 ⟨rfl, Av (by decide) (by decide)⟩ (A0 hrow (A0 he A2)))))))
   split at ih
   ·exact ⟨ih.1, go _ _ ih.2⟩
   ·obtain ⟨t, he⟩ := ih
    exact ⟨t, go _ _ he⟩
  | cons a l =>
   have e := Bd 1 (A1 155 33) [di a] [di (m : Int)] (A6 l)
   have go : ∀ X st, Ev CI Ab (Lp 155 0 (llHd head (A6 next) (llA (a :: l ++ [(m : Int)])) (llT (a :: l ++ [(m : Int)])) next[m])) (.code X st) → Ev CI Ab (Lp 155 0 (llHd head (A6 next) (llA (a :: l)) (llT (a :: l)) (m : Int))) (.code X st) := fun X st he => by
    refine Aa _ _ _ _ _ _ (ll_st _ _ _ _ _ _ _ _) (A0 b1 (A0 (decide_eq_false h2) (A0 b3 (A0 hi (A0 ⟨rfl, rfl, Av (by simp only [List.length_cons, List.length_map]; simp at hb; omega) (by decide)⟩ (A0 hrow (A0 ?_ A2)))))))
    have ea : llA (a :: l ++ [(m : Int)]) = apR 1 (A1 155 33) ([di a] :: A6 l ++ [[di (m : Int)]]) := by simp [llA, A6]
    have et : llT (a :: l ++ [(m : Int)]) = Ct (A1 155 33) ([di a] :: A6 l ++ [[di (m : Int)]]) := by simp [llT, A6]
    rw [ea, et, e.1, e.2] at he
    exact he
   split at ih
   ·exact ⟨ih.1, go _ _ ih.2⟩
   ·obtain ⟨t, he⟩ := ih
    exact ⟨t, go _ _ he⟩
def lkHd (head : Int) (next : A8) (a : AV) (t : AC) (i : Int) : St := { σ := Ap 58 [(1, .ptr (A1 155 1) 0 0), (4, a), (6, vi i)], h := llH head next t }
def lkOut (head : Int) (next : A8) (a : AV) (t : AC) : St := { σ := Ap 58 [(4, a)], h := llH head next t }
theorem lk_exit (head i : Int) (next : A8) (a : AV) (t : AC) : sM CI 155 1 (lkHd head next a t i) [(A1 155 43, .b false)] [4] = some ((.exit 2, lkOut head next a t), [], [decide (i < (next.length : Int)) = false]) := by kernel_rfl
theorem lkn_bad (head i y : Int) (p u : Bool) (next : A8) (t : AC) : sM CI 155 1 (lkHd head next (.d dnil) t i) [(A1 155 43, .b true), (A1 155 48, .prim [A3 p]), (A1 155 53, .row [di y]), (A1 155 55, .b u), (A1 155 56, .b true)] [2, 3] =
  some ((.ret, llRet head next t), [], [decide (i < (next.length : Int)) = true, inS [.one dnil, A5 i] = some [A3 p], 0 ≤ i ∧ next[i.toNat]? = some [di y], (y != -2) = u, (p != u) = true]) := by kernel_rfl
theorem lkn_step (head i i' y : Int) (p u : Bool) (next : A8) (t : AC) (X : X) (st : St) : AY CI Ab 60 (Lp 155 1 (lkHd head next (.d dnil) t i)) [(A1 155 43, .b true), (A1 155 48, .prim [A3 p]), (A1 155 53, .row [di y]), (A1 155 55, .b u), (A1 155 56, .b false), (A1 155 45, .int i'), (A1 155 8001, .loop [1, 4, 6] X st)] =
  some (.code X st, [], [decide (i < (next.length : Int)) = true, inS [.one dnil, A5 i] = some [A3 p], 0 ≤ i ∧ next[i.toNat]? = some [di y], (y != -2) = u, (p != u) = false, IntKind.wrap .i64 (i + 1) = i', Ev CI Ab (Lp 155 1 (lkHd head next (.d dnil) t i')) (.code X st)]) := by kernel_rfl
theorem lks_bad (head i y : Int) (p u : Bool) (next : A8) (rows : A8) (g : Nat) (t : AC) : sM CI 155 1 (lkHd head next (.st 1 rows (A1 155 33) g) t i) [(A1 155 43, .b true), (A1 155 48, .prim [A3 p]), (A1 155 53, .row [di y]), (A1 155 55, .b u), (A1 155 56, .b true)] [2, 3] =
  some ((.ret, llRet head next t), [], [decide (i < (next.length : Int)) = true, inS [.one (.sl 1 false rows), A5 i] = some [A3 p], 0 ≤ i ∧ next[i.toNat]? = some [di y], (y != -2) = u, (p != u) = true]) := by kernel_rfl
theorem lks_step (head i i' y : Int) (p u : Bool) (next : A8) (rows : A8) (g : Nat) (t : AC) (X : X) (st : St) : AY CI Ab 60 (Lp 155 1 (lkHd head next (.st 1 rows (A1 155 33) g) t i)) [(A1 155 43, .b true), (A1 155 48, .prim [A3 p]), (A1 155 53, .row [di y]), (A1 155 55, .b u), (A1 155 56, .b false), (A1 155 45, .int i'), (A1 155 8001, .loop [1, 4, 6] X st)] =
  some (.code X st, [], [decide (i < (next.length : Int)) = true, inS [.one (.sl 1 false rows), A5 i] = some [A3 p], 0 ≤ i ∧ next[i.toNat]? = some [di y], (y != -2) = u, (p != u) = false, IntKind.wrap .i64 (i + 1) = i', Ev CI Ab (Lp 155 1 (lkHd head next (.st 1 rows (A1 155 33) g) t i')) (.code X st)]) := by kernel_rfl
def lkChk (next out : List Int) (i : Nat) : Bool := out.contains (i : Int) != decide (next[i]? = some (-2))
def lkRes (head : Int) (next : List Int) (a : AV) (t : AC) (ok : Bool) : X × St := if ok then (.exit 2, lkOut head (A6 next) a t) else (.ret, llRet head (A6 next) t)
theorem lk_loop (head : Int) (next out : List Int) (t : AC) (hn : next.length ≤ 64) (ho : out.length ≤ 64) : ∀ (d i : Nat), i + d = next.length →
  Ev CI Ab (Lp 155 1 (lkHd head (A6 next) (llA out) t i)) (.code (lkRes head next (llA out) t (((List.range next.length).drop i).all (lkChk next out))).1 (lkRes head next (llA out) t (((List.range next.length).drop i).all (lkChk next out))).2)
 | 0, i, h => by
  have : (List.range next.length).drop i = [] := List.drop_eq_nil_of_le (by simp; omega)
  rw [this]
  exact Ac (lk_exit _ _ _ _ _) (A0 (by rw [Ax]; exact dge (by omega)) A2)
 | d + 1, i, h => by
  have hi : i < next.length := by omega
  have hd : (List.range next.length).drop i = i :: (List.range next.length).drop (i + 1) := by
   have := List.drop_eq_getElem_cons (l := List.range next.length) (i := i) (by simpa using hi)
   simpa using this
  have hlt : decide ((i : Int) < ((A6 next).length : Int)) = true := by rw [Ax]; exact dlt hi
  have hr : 0 ≤ (i : Int) ∧ (A6 next)[((i : Int)).toNat]? = some [di next[i]] := ⟨by omega, B2 (List.getElem?_eq_getElem hi)⟩
  have hin := inS_row out (i : Int) (by omega)
  have hu : (next[i] != -2) = (next[i] != -2) := rfl
  have ih := lk_loop head next out t hn ho d (i + 1) (by omega)
  have hc : lkChk next out i = !(out.contains (i : Int) != (next[i] != -2)) := by
   simp only [lkChk, List.getElem?_eq_getElem hi]
   by_cases e : next[i] = -2
   ·simp [e]
   ·have e2 : (next[i] != -2) = true := by simpa using e
    rw [e2]
    simp [e]
  rw [hd, List.all_cons]
  cases hb : (out.contains (i : Int) != (next[i] != -2)) with
  | true =>
   rw [hb] at hc
   rw [hc]
   simp only [Bool.not_true, Bool.false_and]
   cases out with
   | nil => exact Ac (lkn_bad _ _ _ _ _ _ _) (A0 hlt (A0 hin (A0 hr (A0 rfl (A0 hb A2)))))
   | cons b l => exact Ac (lks_bad _ _ _ _ _ _ _ _ _) (A0 hlt (A0 hin (A0 hr (A0 rfl (A0 hb A2)))))
  | false =>
   rw [hb] at hc
   rw [hc]
   simp only [Bool.not_false, Bool.true_and]
   cases out with
   | nil => exact Aa _ _ _ _ _ _ (lkn_step _ _ ((i + 1 : Nat) : Int) _ _ _ _ _ _ _) (A0 hlt (A0 hin (A0 hr (A0 rfl (A0 hb (A0 (Ag (by omega)) (A0 ih A2)))))))
   | cons b l => exact Aa _ _ _ _ _ _ (lks_step _ _ ((i + 1 : Nat) : Int) _ _ _ _ _ _ _ _ _) (A0 hlt (A0 hin (A0 hr (A0 rfl (A0 hb (A0 (Ag (by omega)) (A0 ih A2)))))))
theorem ls_long (head : Int) (next : A8) : sV CI 155 [.agg [di head, .mn 1 next]] [(A1 155 11, .b true)] = some ([.one dnil, A3 false], [], [decide ((next.length : Int) > 64) = true]) := by kernel_rfl
theorem ls_no (head : Int) (next : A8) (t : AC) : sV CI 155 [.agg [di head, .mn 1 next]] [(A1 155 11, .b false), (A1 155 8001, .loop [1, 4, 5] .ret (llRet head next t))] =
  some ([.one dnil, A3 false], [], [decide ((next.length : Int) > 64) = false, Ev CI Ab (Lp 155 0 (llHd head next (.d dnil) [] head)) (.code .ret (llRet head next t))]) := by kernel_rfl
theorem ls_bad (head : Int) (next : A8) (a : AV) (t : AC) : sV CI 155 [.agg [di head, .mn 1 next]] [(A1 155 11, .b false), (A1 155 8001, .loop [1, 4, 5] (.exit 0) (llOut head next a t)), (A1 155 8001, .loop [1, 4, 6] .ret (llRet head next t))] =
  some ([.one dnil, A3 false], [], [decide ((next.length : Int) > 64) = false, Ev CI Ab (Lp 155 0 (llHd head next (.d dnil) [] head)) (.code (.exit 0) (llOut head next a t)), Ev CI Ab (Lp 155 1 (lkHd head next a t 0)) (.code .ret (llRet head next t))]) := by kernel_rfl
theorem ls_okn (head : Int) (next : A8) (t : AC) : sV CI 155 [.agg [di head, .mn 1 next]] [(A1 155 11, .b false), (A1 155 8001, .loop [1, 4, 5] (.exit 0) (llOut head next (.d dnil) t)), (A1 155 8001, .loop [1, 4, 6] (.exit 2) (lkOut head next (.d dnil) t))] =
  some ([.one dnil, A3 true], [], [decide ((next.length : Int) > 64) = false, Ev CI Ab (Lp 155 0 (llHd head next (.d dnil) [] head)) (.code (.exit 0) (llOut head next (.d dnil) t)), Ev CI Ab (Lp 155 1 (lkHd head next (.d dnil) t 0)) (.code (.exit 2) (lkOut head next (.d dnil) t))]) := by kernel_rfl
theorem ls_oks (head : Int) (next rows : A8) (g : Nat) (t : AC) : sV CI 155 [.agg [di head, .mn 1 next]] [(A1 155 11, .b false), (A1 155 8001, .loop [1, 4, 5] (.exit 0) (llOut head next (.st 1 rows (A1 155 33) g) t)), (A1 155 8001, .loop [1, 4, 6] (.exit 2) (lkOut head next (.st 1 rows (A1 155 33) g) t))] =
  some ([.one (.sl 1 false rows), A3 true], [], [decide ((next.length : Int) > 64) = false, Ev CI Ab (Lp 155 0 (llHd head next (.d dnil) [] head)) (.code (.exit 0) (llOut head next (.st 1 rows (A1 155 33) g) t)), Ev CI Ab (Lp 155 1 (lkHd head next (.st 1 rows (A1 155 33) g) t 0)) (.code (.exit 2) (lkOut head next (.st 1 rows (A1 155 33) g) t))]) := by kernel_rfl
def Cd (r : Option (List Int)) : List PV := match r with
 | some out => [.one (rowD 1 (A6 out)), A3 true]
 | none => [.one dnil, A3 false]
def Bb (res : Option (List Int) → List PV) : Spec
 | [.agg [.v (.int .i64 head), .mn 1 rows]] => match Ae intR rows with
  | some next => some (res (Cm head next))
  | none => none
 | _ => none
theorem linkIn_eq (next out : List Int) : linkIn next out = ((List.range next.length).drop 0).all (lkChk next out) := rfl
theorem list_sat : AJ CI 155 (Bb Cd) := Af (O := Ab) hPI (fun _ _ h => h.elim) Bm fun ps rs hs => by
 unfold Bb at hs
 split at hs
 ·rename_i head rows
  split at hs
  ·rename_i next hl
   cases hs
   have := intsR_eq hl
   subst this
   by_cases h64 : 64 < next.length
   ·have : Cm head next = none := by unfold Cm; rw [if_pos h64]
    rw [this]
    exact A4 (ls_long head _) (A0 (decide_eq_true (by rw [Ax]; omega)) A2)
   ·have b0 : decide (((A6 next).length : Int) > 64) = false := decide_eq_false (by rw [Ax]; omega)
    have hw := ll_loop head next (by omega) (next.length + 1) head [] (by rw [Cx]; omega) (by rw [Cx]; simp)
    unfold LL at hw
    unfold Cm
    rw [if_neg h64]
    cases hlw : lwalk next (next.length + 1) head [] with
    | none =>
     rw [hlw] at hw
     obtain ⟨t, he⟩ := hw
     exact A4 (ls_no head _ t) (A0 b0 (A0 he A2))
    | some out =>
     rw [hlw] at hw
     obtain ⟨hlen, he⟩ := hw
     have hk := lk_loop head next out (llT out) (by omega) (by omega) next.length 0 (by omega)
     rw [← linkIn_eq] at hk
     cases hok : linkIn next out with
     | false =>
      rw [hok] at hk
      simp only [hok]
      exact A4 (ls_bad head _ (llA out) (llT out)) (A0 b0 (A0 he (A0 hk A2)))
     | true =>
      rw [hok] at hk
      simp only [hok]
      cases out with
      | nil => exact A4 (ls_okn head _ _) (A0 b0 (A0 he (A0 hk A2)))
      | cons b l => exact A4 (ls_oks head _ _ _ _) (A0 b0 (A0 he (A0 hk A2)))
  ·cases hs
 ·cases hs
noncomputable def CIL : Ctx := Ad C0 155 (Bb Cd)
theorem hPIL : Aw CIL := A7 BN (list_sat.ctx rfl rfl) (by kernel_rfl)
theorem lr_n (head : Int) (next : A8) (t : Bool) : sV CIL 88 [.agg [di head, .mn 1 next]] [(A1 88 7, .prim [.one dnil, A3 t])] = some ([A3 t], [], [Bb Cd [.agg [di head, .mn 1 next]] = some [.one dnil, A3 t]]) := by kernel_rfl
theorem lr_s (head : Int) (next rows : A8) (t : Bool) : sV CIL 88 [.agg [di head, .mn 1 next]] [(A1 88 7, .prim [.one (.sl 1 false rows), A3 t])] = some ([A3 t], [], [Bb Cd [.agg [di head, .mn 1 next]] = some [.one (.sl 1 false rows), A3 t]]) := by kernel_rfl
def CA (r : Option (List Int)) : List PV := [A3 r.isSome]
theorem linksRight_sat : AJ CIL 88 (Bb CA) := Af (O := Ab) hPIL (fun _ _ h => h.elim) Bm fun ps rs hs => by
 unfold Bb at hs
 split at hs
 ·rename_i head rows
  split at hs
  ·rename_i next hl
   cases hs
   have hp : Bb Cd [.agg [di head, .mn 1 rows]] = some (Cd (Cm head next)) := by simp only [Bb, di, hl]
   cases hr : Cm head next with
   | none =>
    rw [hr] at hp
    exact A4 (lr_n head rows false) (A0 hp A2)
   | some out =>
    rw [hr] at hp
    cases out with
    | nil => exact A4 (lr_n head rows true) (A0 hp A2)
    | cons b l => exact A4 (lr_s head rows _ true) (A0 hp A2)
  ·cases hs
 ·cases hs
theorem agg4 : isAggT C0 4 = some false := by kernel_rfl
theorem size4 : AR C0 4 = some 1 := by kernel_rfl
theorem ld1 {C : Ctx} {t : TypeId} {cs : List AV} {m : Nat} (h : isAggT C t = some false) : AE C t cs (0 + m * 1) = cs[m]? := by
 unfold AE
 rw [h]
 simp
theorem sto1 {C : Ctx} {t : TypeId} {cs : List AV} {m : Nat} {x : AV} (hs : AR C t = some 1) (hx : AX x = [x]) (hc : isCell x = true) (hm : m < cs.length) : stoEq C t cs (0 + m * 1) x (cs.set m x) := by
 refine ⟨1, hs, by rw [hx]; rfl, by omega, by rw [hx]; simp [hc], ?_⟩
 rw [hx]
 simp [AL]
def AK (n : Nat) (out : List Int) : List AV := (List.range n).map fun i : Nat => vb (out.contains (i : Int))
theorem metC_at {n : Nat} {out : List Int} {m : Nat} (h : m < n) : (AK n out)[m]? = some (vb (out.contains (m : Int))) := by simp [AK, h]
theorem metC_len (n : Nat) (out : List Int) : (AK n out).length = n := by simp [AK]
theorem metC_set {n : Nat} {out : List Int} {m : Nat} (h : m < n) : (AK n out).set m (vb true) = AK n (out ++ [(m : Int)]) := by
 apply List.ext_getElem?
 intro i
 by_cases hi : i < n
 ·rw [metC_at hi, List.getElem?_set]
  by_cases e : m = i
  ·subst e
   rw [if_pos rfl, if_pos (by rw [metC_len]; exact hi)]
   simp
  ·rw [if_neg e, metC_at hi]
   have : ¬ (i : Int) = (m : Int) := by omega
   simp [List.contains_append, this]
 ·rw [List.getElem?_eq_none (by simp [AK]; omega), List.getElem?_eq_none (by simp [AK]; omega)]
theorem metC_nil (n : Nat) : AK n [] = (List.replicate n [AV.d (.v (.bool false))]).flatten := by
 apply List.ext_getElem?
 intro i
 have e : (List.replicate n [AV.d (DV.v (Value.bool false))]).flatten = List.replicate n (AV.d (DV.v (Value.bool false))) := by
  induction n with
  | zero => rfl
  | succ n ih => rw [List.replicate_succ, List.flatten_cons, ih]; rfl
 rw [e]
 by_cases hi : i < n
 ·rw [metC_at hi]; simp [hi, vb]
 ·rw [List.getElem?_eq_none (by simp [AK]; omega), List.getElem?_eq_none (by simp; omega)]
def lwH (head : Int) (next : A8) (cs : List AV) (t : AC) : H := { objs := [(A1 139 1, 1, [.cells [vi head, .d (.mn 1 next)] false]), (A1 139 16, 1, [.cells cs false])], toks := t }
def lwHd (head : Int) (next : A8) (cs : List AV) (n : Nat) (a : AV) (t : AC) (x : Int) : St := { σ := Ap 63 [(1, .ptr (A1 139 1) 0 0), (4, vi n), (5, a), (6, .hs (A1 139 16) 0 0 n 1), (7, vi x)], h := lwH head next cs t }
def lwOut (head : Int) (next : A8) (cs : List AV) (n : Nat) (a : AV) (t : AC) : St := { σ := Ap 63 [(1, .ptr (A1 139 1) 0 0), (5, a), (6, .hs (A1 139 16) 0 0 n 1)], h := lwH head next cs t }
def lwRet (head : Int) (next : A8) (cs : List AV) (t : AC) : St := { σ := Ap 63 [(2, .d dnil), (3, vb false)], h := lwH head next cs t }
theorem lw_exit (head x : Int) (next : A8) (cs : List AV) (n : Nat) (a : AV) (t : AC) : sM C0 139 0 (lwHd head next cs n a t x) [(A1 139 20, .b false)] [1, 5, 6] = some ((.exit 0, lwOut head next cs n a t), [], [(x != -1) = false]) := by kernel_rfl
theorem lw_neg (head x : Int) (next : A8) (cs : List AV) (n : Nat) (a : AV) (t : AC) : sM C0 139 0 (lwHd head next cs n a t x) [(A1 139 20, .b true), (A1 139 27, .b true)] [2, 3] = some ((.ret, lwRet head next cs t), [], [(x != -1) = true, decide (x < 0) = true]) := by kernel_rfl
theorem lw_big (head x : Int) (next : A8) (cs : List AV) (n : Nat) (a : AV) (t : AC) : sM C0 139 0 (lwHd head next cs n a t x) [(A1 139 20, .b true), (A1 139 27, .b false), (A1 139 31, .b true)] [2, 3] = some ((.ret, lwRet head next cs t), [], [(x != -1) = true, decide (x < 0) = false, decide (x ≥ (n : Int)) = true]) := by kernel_rfl
theorem lw_met (head x : Int) (next : A8) (cs : List AV) (n m : Nat) (a : AV) (t : AC) : sM C0 139 0 (lwHd head next cs n a t x) [(A1 139 20, .b true), (A1 139 27, .b false), (A1 139 31, .b false), (A1 139 36, .idx m), (A1 139 37, .ld (vb true))] [2, 3] = some ((.ret, lwRet head next cs t), [], [(x != -1) = true, decide (x < 0) = false, decide (x ≥ (n : Int)) = false, x = m ∧ m < n, AE C0 4 cs (0 + m * 1) = some (vb true)]) := by kernel_rfl
def lwScr (m : Nat) (cs' : List AV) (y : Int) (X : X) (st : St) : Ah := [(A1 139 20, .b true), (A1 139 27, .b false), (A1 139 31, .b false), (A1 139 36, .idx m), (A1 139 37, .ld (vb false)), (A1 139 41, .idx m), (A1 139 8000, .sto cs'), (A1 139 45, .app false), (A1 139 24, .row [di y]), (A1 139 8001, .loop [1, 4, 5, 6, 7] X st)]
theorem lw_nil (head x y : Int) (next : A8) (cs cs' : List AV) (n m : Nat) (X : X) (st : St) : AY C0 Ab 60 (Lp 139 0 (lwHd head next cs n (.d dnil) [] x)) (lwScr m cs' y X st) =
  some (.code X st, [], [(x != -1) = true, decide (x < 0) = false, decide (x ≥ (n : Int)) = false, x = m ∧ m < n, AE C0 4 cs (0 + m * 1) = some (vb false), x = m ∧ m < n, stoEq C0 4 cs (0 + m * 1) (vb true) cs', false = false ∧ Am 0 1 8, 0 ≤ x ∧ next[x.toNat]? = some [di y], Ev C0 Ab (Lp 139 0 (lwHd head next cs' n (.st 1 [[di x]] (A1 139 45) 1) [(A1 139 45, 1)] y)) (.code X st)]) := by kernel_rfl
theorem lw_st (head x y : Int) (next rows : A8) (cs cs' : List AV) (n m g : Nat) (X : X) (st : St) : AY C0 Ab 60 (Lp 139 0 (lwHd head next cs n (.st 1 rows (A1 139 45) g) [(A1 139 45, g)] x)) (lwScr m cs' y X st) =
  some (.code X st, [], [(x != -1) = true, decide (x < 0) = false, decide (x ≥ (n : Int)) = false, x = m ∧ m < n, AE C0 4 cs (0 + m * 1) = some (vb false), x = m ∧ m < n, stoEq C0 4 cs (0 + m * 1) (vb true) cs', false = false ∧ g = g ∧ Am rows.length 1 8, 0 ≤ x ∧ next[x.toNat]? = some [di y], Ev C0 Ab (Lp 139 0 (lwHd head next cs' n (.st 1 (rows ++ [[di x]]) (A1 139 45) (g + 1 + 1)) [(A1 139 45, g + 1 + 1)] y)) (.code X st)]) := by kernel_rfl
def wA (out : List Int) : AV := apR 1 (A1 139 45) (A6 out)
def wT (out : List Int) : AC := Ct (A1 139 45) (A6 out)
def LW (head : Int) (next : List Int) (k : Nat) (x : Int) (out : List Int) : Prop := match lwalk next k x out with
 | some o => o.length ≤ next.length ∧ Ev C0 Ab (Lp 139 0 (lwHd head (A6 next) (AK next.length out) next.length (wA out) (wT out) x)) (.code (.exit 0) (lwOut head (A6 next) (AK next.length o) next.length (wA o) (wT o)))
 | none => ∃ cs t, Ev C0 Ab (Lp 139 0 (lwHd head (A6 next) (AK next.length out) next.length (wA out) (wT out) x)) (.code .ret (lwRet head (A6 next) cs t))
theorem lw_loop (head : Int) (next : List Int) (hn : next.length ≤ 64) : ∀ (k : Nat) (x : Int) (out : List Int), left next.length out < k → out.length + left next.length out ≤ next.length → LW head next k x out
 | 0, x, out, h, _ => by omega
 | k + 1, x, out, h, hb => by
  unfold LW lwalk
  by_cases h1 : x = -1
  ·rw [if_pos h1]
   exact ⟨by omega, Ac (lw_exit _ _ _ _ _ _ _) (A0 (by simp [h1]) A2)⟩
  rw [if_neg h1]
  have b1 : (x != -1) = true := by simpa using h1
  by_cases h2 : x < 0
  ·rw [if_pos (.inl h2)]
   exact ⟨_, _, Ac (lw_neg _ _ _ _ _ _ _) (A0 b1 (A0 (decide_eq_true h2) A2))⟩
  by_cases h3 : (next.length : Int) ≤ x
  ·rw [if_pos (.inr (.inl h3))]
   exact ⟨_, _, Ac (lw_big _ _ _ _ _ _ _) (A0 b1 (A0 (decide_eq_false h2) (A0 (decide_eq_true (by omega)) A2)))⟩
  have b3 : decide (x ≥ (next.length : Int)) = false := decide_eq_false (by omega)
  obtain ⟨m, rfl⟩ := Int.eq_ofNat_of_zero_le (show 0 ≤ x by omega)
  have hm : m < next.length := by omega
  have hld : AE C0 4 (AK next.length out) (0 + m * 1) = some (vb (out.contains (m : Int))) := by rw [ld1 agg4, metC_at hm]
  by_cases h4 : out.contains (m : Int) = true
  ·rw [if_pos (.inr (.inr h4))]
   rw [h4] at hld
   exact ⟨_, _, Ac (lw_met _ _ _ _ _ m _ _) (A0 b1 (A0 (decide_eq_false h2) (A0 b3 (A0 ⟨rfl, hm⟩ (A0 hld A2)))))⟩
  have h4' : out.contains (m : Int) = false := by simpa using h4
  rw [if_neg (fun h => h.elim h2 (fun h => h.elim h3 h4))]
  rw [h4'] at hld
  have hlt := left_lt hm h4'
  have ih := lw_loop head next hn k ((next[((m : Nat) : Int).toNat]?).getD 0) (out ++ [(m : Int)]) (by omega) (by simp only [List.length_append, List.length_singleton]; omega)
  have hy : next[((m : Nat) : Int).toNat]? = some next[m] := by simp [hm]
  rw [hy] at ih ⊢
  simp only [Option.getD_some] at ih ⊢
  have hrow : 0 ≤ (m : Int) ∧ (A6 next)[((m : Int)).toNat]? = some [di next[m]] := ⟨by omega, B2 (List.getElem?_eq_getElem hm)⟩
  have hst : stoEq C0 4 (AK next.length out) (0 + m * 1) (vb true) (AK next.length (out ++ [(m : Int)])) := by
   rw [← metC_set hm]
   exact sto1 size4 rfl rfl (by rw [metC_len]; exact hm)
  unfold LW at ih
  have go : ∀ X st, Ev C0 Ab (Lp 139 0 (lwHd head (A6 next) (AK next.length (out ++ [(m : Int)])) next.length (wA (out ++ [(m : Int)])) (wT (out ++ [(m : Int)])) next[m])) (.code X st) → Ev C0 Ab (Lp 139 0 (lwHd head (A6 next) (AK next.length out) next.length (wA out) (wT out) (m : Int))) (.code X st) := fun X st he => by
   cases out with
   | nil => exact Aa _ _ _ _ _ _ (lw_nil _ _ _ _ _ _ _ m _ _) (A0 b1 (A0 (decide_eq_false h2) (A0 b3 (A0 ⟨rfl, hm⟩ (A0 hld (A0 ⟨rfl, hm⟩ (A0 hst (A0 ⟨rfl, Av (by decide) (by decide)⟩ (A0 hrow (A0 he A2))))))))))
   | cons a l =>
    have e := Bd 1 (A1 139 45) [di a] [di (m : Int)] (A6 l)
    refine Aa _ _ _ _ _ _ (lw_st _ _ _ _ _ _ _ _ m _ _ _) (A0 b1 (A0 (decide_eq_false h2) (A0 b3 (A0 ⟨rfl, hm⟩ (A0 hld (A0 ⟨rfl, hm⟩ (A0 hst (A0 ⟨rfl, rfl, Av (by simp only [List.length_cons, List.length_map]; simp at hb; omega) (by decide)⟩ (A0 hrow (A0 ?_ A2))))))))))
    have ea : wA (a :: l ++ [(m : Int)]) = apR 1 (A1 139 45) ([di a] :: A6 l ++ [[di (m : Int)]]) := by simp [wA, A6]
    have et : wT (a :: l ++ [(m : Int)]) = Ct (A1 139 45) ([di a] :: A6 l ++ [[di (m : Int)]]) := by simp [wT, A6]
    rw [ea, et, e.1, e.2] at he
    exact he
  split at ih
  ·exact ⟨ih.1, go _ _ ih.2⟩
  ·obtain ⟨cs, t, he⟩ := ih
   exact ⟨cs, t, go _ _ he⟩
def lvHd (head : Int) (next : A8) (cs : List AV) (n : Nat) (a : AV) (t : AC) (i : Int) : St := { σ := Ap 63 [(5, a), (6, .hs (A1 139 16) 0 0 n 1), (47, .d (.mn 1 next)), (48, vi (next.length : Nat)), (49, vi i)], h := lwH head next cs t }
def lvOut (head : Int) (next : A8) (cs : List AV) (a : AV) (t : AC) : St := { σ := Ap 63 [(5, a)], h := lwH head next cs t }
theorem lv_exit (head i : Int) (next : A8) (cs : List AV) (n : Nat) (a : AV) (t : AC) : sM C0 139 1 (lvHd head next cs n a t i) [(A1 139 50, .b false)] [5] = some ((.exit 2, lvOut head next cs a t), [], [decide (i < (next.length : Int)) = false]) := by kernel_rfl
theorem lv_bad (head i y : Int) (p u : Bool) (next : A8) (cs : List AV) (n m : Nat) (a : AV) (t : AC) : sM C0 139 1 (lvHd head next cs n a t i) [(A1 139 50, .b true), (A1 139 52, .row [di y]), (A1 139 56, .idx m), (A1 139 57, .ld (vb p)), (A1 139 59, .b u), (A1 139 60, .b true)] [2, 3] =
  some ((.ret, lwRet head next cs t), [], [decide (i < (next.length : Int)) = true, 0 ≤ i ∧ next[i.toNat]? = some [di y], i = m ∧ m < n, AE C0 4 cs (0 + m * 1) = some (vb p), (y == -2) = u, (p == u) = true]) := by kernel_rfl
theorem lv_step (head i i' y : Int) (p u : Bool) (next : A8) (cs : List AV) (n m : Nat) (a : AV) (t : AC) (X : X) (st : St) : AY C0 Ab 60 (Lp 139 1 (lvHd head next cs n a t i)) [(A1 139 50, .b true), (A1 139 52, .row [di y]), (A1 139 56, .idx m), (A1 139 57, .ld (vb p)), (A1 139 59, .b u), (A1 139 60, .b false), (A1 139 61, .int i'), (A1 139 8001, .loop [5, 6, 47, 48, 49] X st)] =
  some (.code X st, [], [decide (i < (next.length : Int)) = true, 0 ≤ i ∧ next[i.toNat]? = some [di y], i = m ∧ m < n, AE C0 4 cs (0 + m * 1) = some (vb p), (y == -2) = u, (p == u) = false, IntKind.wrap .i64 (i + 1) = i', Ev C0 Ab (Lp 139 1 (lvHd head next cs n a t i')) (.code X st)]) := by kernel_rfl
def lvRes (head : Int) (next : List Int) (cs : List AV) (a : AV) (t : AC) (ok : Bool) : X × St := if ok then (.exit 2, lvOut head (A6 next) cs a t) else (.ret, lwRet head (A6 next) cs t)
theorem lv_loop (head : Int) (next out : List Int) (a : AV) (t : AC) (hn : next.length ≤ 64) : ∀ (d i : Nat), i + d = next.length →
  Ev C0 Ab (Lp 139 1 (lvHd head (A6 next) (AK next.length out) next.length a t i)) (.code (lvRes head next (AK next.length out) a t (((List.range next.length).drop i).all (lkChk next out))).1 (lvRes head next (AK next.length out) a t (((List.range next.length).drop i).all (lkChk next out))).2)
 | 0, i, h => by
  have : (List.range next.length).drop i = [] := List.drop_eq_nil_of_le (by simp; omega)
  rw [this]
  exact Ac (lv_exit _ _ _ _ _ _ _) (A0 (by rw [Ax]; exact dge (by omega)) A2)
 | d + 1, i, h => by
  have hi : i < next.length := by omega
  have hd : (List.range next.length).drop i = i :: (List.range next.length).drop (i + 1) := by
   have := List.drop_eq_getElem_cons (l := List.range next.length) (i := i) (by simpa using hi)
   simpa using this
  have hlt : decide ((i : Int) < ((A6 next).length : Int)) = true := by rw [Ax]; exact dlt hi
  have hr : 0 ≤ (i : Int) ∧ (A6 next)[((i : Int)).toNat]? = some [di next[i]] := ⟨by omega, B2 (List.getElem?_eq_getElem hi)⟩
  have hld : AE C0 4 (AK next.length out) (0 + i * 1) = some (vb (out.contains (i : Int))) := by rw [ld1 agg4, metC_at hi]
  have ih := lv_loop head next out a t hn d (i + 1) (by omega)
  have hc : lkChk next out i = !(out.contains (i : Int) == (next[i] == -2)) := by
   simp only [lkChk, List.getElem?_eq_getElem hi]
   by_cases e : next[i] = -2
   ·simp [e, bne]
   ·have e2 : (next[i] == -2) = false := by simpa using e
    rw [e2]
    simp [e, bne]
  rw [hd, List.all_cons]
  cases hb : (out.contains (i : Int) == (next[i] == -2)) with
  | true =>
   rw [hb] at hc
   rw [hc]
   simp only [Bool.not_true, Bool.false_and]
   exact Ac (lv_bad _ _ _ _ _ _ _ _ i _ _) (A0 hlt (A0 hr (A0 ⟨rfl, hi⟩ (A0 hld (A0 rfl (A0 hb A2))))))
  | false =>
   rw [hb] at hc
   rw [hc]
   simp only [Bool.not_false, Bool.true_and]
   exact Aa _ _ _ _ _ _ (lv_step _ _ ((i + 1 : Nat) : Int) _ _ _ _ _ _ i _ _ _ _) (A0 hlt (A0 hr (A0 ⟨rfl, hi⟩ (A0 hld (A0 rfl (A0 hb (A0 (Ag (by omega)) (A0 ih A2))))))))
def mkN (n : Nat) : List AV := (List.replicate n [AV.d (.v (.bool false))]).flatten
def mkOb (n : Nat) (k : Int) : Prop := k = n ∧ k = n ∧ n * 1 ≤ 2 ^ 40 ∧ n ≤ 2 ^ 40 ∧ 0 < 1 ∧ 1 = 1
theorem wk_long (head : Int) (next : A8) : sV C0 139 [.agg [di head, .mn 1 next]] [(A1 139 14, .b true)] = some ([.one dnil, A3 false], [], [decide ((next.length : Int) > 64) = true]) := by kernel_rfl
theorem wk_no (head : Int) (next : A8) (n : Nat) (cs : List AV) (t : AC) : sV C0 139 [.agg [di head, .mn 1 next]] [(A1 139 12, .int n), (A1 139 14, .b false), (A1 139 16, .mks n), (A1 139 8001, .loop [1, 4, 5, 6, 7] .ret (lwRet head next cs t))] =
  some ([.one dnil, A3 false], [], [(next.length : Int) = n, decide ((n : Int) > 64) = false, mkOb n n, Ev C0 Ab (Lp 139 0 (lwHd head next (mkN n) n (.d dnil) [] head)) (.code .ret (lwRet head next cs t))]) := by kernel_rfl
theorem wk_bad (head : Int) (next : A8) (n : Nat) (a : AV) (cs : List AV) (t : AC) : sV C0 139 [.agg [di head, .mn 1 next]] [(A1 139 12, .int n), (A1 139 14, .b false), (A1 139 16, .mks n), (A1 139 8001, .loop [1, 4, 5, 6, 7] (.exit 0) (lwOut head next cs n a t)), (A1 139 8001, .loop [5, 6, 47, 48, 49] .ret (lwRet head next cs t))] =
  some ([.one dnil, A3 false], [], [(next.length : Int) = n, decide ((n : Int) > 64) = false, mkOb n n, Ev C0 Ab (Lp 139 0 (lwHd head next (mkN n) n (.d dnil) [] head)) (.code (.exit 0) (lwOut head next cs n a t)), Ev C0 Ab (Lp 139 1 (lvHd head next cs n a t 0)) (.code .ret (lwRet head next cs t))]) := by kernel_rfl
theorem wk_okn (head : Int) (next : A8) (n : Nat) (cs : List AV) (t : AC) : sV C0 139 [.agg [di head, .mn 1 next]] [(A1 139 12, .int n), (A1 139 14, .b false), (A1 139 16, .mks n), (A1 139 8001, .loop [1, 4, 5, 6, 7] (.exit 0) (lwOut head next cs n (.d dnil) t)), (A1 139 8001, .loop [5, 6, 47, 48, 49] (.exit 2) (lvOut head next cs (.d dnil) t))] =
  some ([.one dnil, A3 true], [], [(next.length : Int) = n, decide ((n : Int) > 64) = false, mkOb n n, Ev C0 Ab (Lp 139 0 (lwHd head next (mkN n) n (.d dnil) [] head)) (.code (.exit 0) (lwOut head next cs n (.d dnil) t)), Ev C0 Ab (Lp 139 1 (lvHd head next cs n (.d dnil) t 0)) (.code (.exit 2) (lvOut head next cs (.d dnil) t))]) := by kernel_rfl
theorem wk_oks (head : Int) (next : A8) (n : Nat) (cs : List AV) (t : AC) (rows : A8) (g : Nat) : sV C0 139 [.agg [di head, .mn 1 next]] [(A1 139 12, .int n), (A1 139 14, .b false), (A1 139 16, .mks n), (A1 139 8001, .loop [1, 4, 5, 6, 7] (.exit 0) (lwOut head next cs n (.st 1 rows (A1 139 45) g) t)), (A1 139 8001, .loop [5, 6, 47, 48, 49] (.exit 2) (lvOut head next cs (.st 1 rows (A1 139 45) g) t))] =
  some ([.one (.sl 1 false rows), A3 true], [], [(next.length : Int) = n, decide ((n : Int) > 64) = false, mkOb n n, Ev C0 Ab (Lp 139 0 (lwHd head next (mkN n) n (.d dnil) [] head)) (.code (.exit 0) (lwOut head next cs n (.st 1 rows (A1 139 45) g) t)), Ev C0 Ab (Lp 139 1 (lvHd head next cs n (.st 1 rows (A1 139 45) g) t 0)) (.code (.exit 2) (lvOut head next cs (.st 1 rows (A1 139 45) g) t))]) := by kernel_rfl
theorem mkOb_ok {n : Nat} (h : n ≤ 64) : mkOb n n := ⟨rfl, rfl, by omega, by omega, by decide, rfl⟩
theorem walk_sat : AJ C0 139 (Bb Cd) := Af (O := Ab) BN (fun _ _ h => h.elim) Bm fun ps rs hs => by
 unfold Bb at hs
 split at hs
 ·rename_i head rows
  split at hs
  ·rename_i next hl
   cases hs
   have := intsR_eq hl
   subst this
   by_cases h64 : 64 < next.length
   ·have : Cm head next = none := by unfold Cm; rw [if_pos h64]
    rw [this]
    exact A4 (wk_long head _) (A0 (decide_eq_true (by rw [Ax]; omega)) A2)
   ·have b0 : decide ((next.length : Int) > 64) = false := decide_eq_false (by omega)
    have bl : ((A6 next).length : Int) = (next.length : Nat) := by rw [Ax]
    have bm := mkOb_ok (n := next.length) (by omega)
    have hw := lw_loop head next (by omega) (next.length + 1) head [] (by rw [Cx]; omega) (by rw [Cx]; simp)
    unfold LW at hw
    rw [metC_nil] at hw
    unfold Cm
    rw [if_neg h64]
    cases hlw : lwalk next (next.length + 1) head [] with
    | none =>
     rw [hlw] at hw
     obtain ⟨cs, t, he⟩ := hw
     exact A4 (wk_no head _ next.length cs t) (A0 bl (A0 b0 (A0 bm (A0 he A2))))
    | some out =>
     rw [hlw] at hw
     obtain ⟨hlen, he⟩ := hw
     have hk := lv_loop head next out (wA out) (wT out) (by omega) next.length 0 (by omega)
     rw [← linkIn_eq] at hk
     cases hok : linkIn next out with
     | false =>
      rw [hok] at hk
      simp only [hok]
      exact A4 (wk_bad head _ next.length (wA out) _ (wT out)) (A0 bl (A0 b0 (A0 bm (A0 he (A0 hk A2)))))
     | true =>
      rw [hok] at hk
      simp only [hok]
      cases out with
      | nil => exact A4 (wk_okn head _ next.length _ _) (A0 bl (A0 b0 (A0 bm (A0 he (A0 hk A2)))))
      | cons b l => exact A4 (wk_oks head _ next.length _ _ _ _) (A0 bl (A0 b0 (A0 bm (A0 he (A0 hk A2)))))
  ·cases hs
 ·cases hs
noncomputable def CIW : Ctx := Ad C0 139 (Bb Cd)
theorem hPIW : Aw CIW := A7 BN walk_sat (by kernel_rfl)
theorem lq_n (head : Int) (next : A8) (t : Bool) : sV CIW 76 [.agg [di head, .mn 1 next]] [(A1 76 7, .prim [.one dnil, A3 t])] = some ([A3 t], [], [Bb Cd [.agg [di head, .mn 1 next]] = some [.one dnil, A3 t]]) := by kernel_rfl
theorem lq_s (head : Int) (next rows : A8) (t : Bool) : sV CIW 76 [.agg [di head, .mn 1 next]] [(A1 76 7, .prim [.one (.sl 1 false rows), A3 t])] = some ([A3 t], [], [Bb Cd [.agg [di head, .mn 1 next]] = some [.one (.sl 1 false rows), A3 t]]) := by kernel_rfl
theorem lRight_sat : AJ CIW 76 (Bb CA) := Af (O := Ab) hPIW (fun _ _ h => h.elim) Bm fun ps rs hs => by
 unfold Bb at hs
 split at hs
 ·rename_i head rows
  split at hs
  ·rename_i next hl
   cases hs
   have hp : Bb Cd [.agg [di head, .mn 1 rows]] = some (Cd (Cm head next)) := by simp only [Bb, di, hl]
   cases hr : Cm head next with
   | none =>
    rw [hr] at hp
    exact A4 (lq_n head rows false) (A0 hp A2)
   | some out =>
    rw [hr] at hp
    cases out with
    | nil => exact A4 (lq_n head rows true) (A0 hp A2)
    | cons b l => exact A4 (lq_s head rows _ true) (A0 hp A2)
  ·cases hs
 ·cases hs
structure Tsk where
 nice : Int
 mask : Int
 lag : Int
def Tsk.cs (t : Tsk) : List DV := [di t.nice, .v (.int .u64 t.mask), di t.lag]
def tskZ (t : Tsk) : Bool := t.nice == 0 && (t.mask == 0 && t.lag == 0)
def tskOK (t : Tsk) : Bool := decide (-20 ≤ t.nice ∧ t.nice ≤ 19 ∧ t.mask ≠ 0 ∧ -1125899906842624 ≤ t.lag ∧ t.lag ≤ 1125899906842624)
def rowOK (w : Nat) (t : Tsk) : Bool := Ck w && (if (At w).kind = 0 then tskZ t else tskOK t)
def vTsk (t : Tsk) : Value := .agg #[.int .i64 t.nice, .int .u64 t.mask, .int .i64 t.lag]
theorem tsk_fields : fieldsOf Tryz.prog 102 = [(3, 0), (39, 1), (3, 2)] := by kernel_rfl
theorem tsk_p0 (a b c : Int) : Ar Tryz.prog (part 3 #[.int .i64 a, .int .u64 b, .int .i64 c] 0) = some (.int .i64 a) := by kernel_rfl
theorem tsk_p1 (a b c : Int) : Ar Tryz.prog (part 39 #[.int .i64 a, .int .u64 b, .int .i64 c] 1) = some (.int .u64 b) := by kernel_rfl
theorem tsk_p2 (a b c : Int) : Ar Tryz.prog (part 3 #[.int .i64 a, .int .u64 b, .int .i64 c] 2) = some (.int .i64 c) := by kernel_rfl
theorem tsk_eq (t u : Tsk) : Ar Tryz.prog (Op.equal 102 (vTsk t) (vTsk u)) = some (t.nice == u.nice && (t.mask == u.mask && t.lag == u.lag)) := by
 show Ar Tryz.prog (Op.equalIn (9998 + 1 + 1) 102 (vTsk t) (vTsk u)) = _
 unfold vTsk
 rw [eq_struct' (by rw [tsk_fields]; rfl), tsk_fields]
 simp only [eqParts, tsk_p0, tsk_p1, tsk_p2, eq_intK und3, eq_intK und39]
 cases (t.nice == u.nice) <;> cases (t.mask == u.mask) <;> cases (t.lag == u.lag) <;> rfl
theorem tsk_zero (t : Tsk) : Ar Tryz.prog (Op.equal 102 (vTsk t) (vTsk ⟨0, 0, 0⟩)) = some (tskZ t) := tsk_eq t ⟨0, 0, 0⟩
noncomputable def CP : Ctx := Ad C0 78 AN
theorem hPP : Aw CP := A7 BN (unpack_sat.ctx rfl rfl) (by kernel_rfl)
def rowS : Spec
 | [.one (.v (.int .u64 w)), .agg [.v (.int .i64 ni), .v (.int .u64 m), .v (.int .i64 la)]] => if 0 ≤ w ∧ w < 2 ^ 64 then some [A3 (rowOK w.toNat ⟨ni, m, la⟩)] else none
 | _ => none
theorem rw_bad (w k c s g : Int) (b : Bool) (t : Tsk) : sV CP 130 [pu w, .agg t.cs] [(A1 130 9, .prim [.agg [di k, di c, db b, di s, di g], A5 1])] =
  some ([A3 false], [], [AN [pu w] = some [.agg [di k, di c, db b, di s, di g], A5 1]]) := by kernel_rfl
theorem rw_free (w k c s g : Int) (b z : Bool) (t : Tsk) : sV CP 130 [pu w, .agg t.cs] [(A1 130 9, .prim [.agg [di k, di c, db b, di s, di g], A5 0]), (A1 130 18, .b true), (A1 130 21, .eqv z)] =
  some ([A3 z], [], [AN [pu w] = some [.agg [di k, di c, db b, di s, di g], A5 0], (k == 0) = true, Ar Tryz.prog (Op.equal 102 (vTsk t) (vTsk ⟨0, 0, 0⟩)) = some z]) := by kernel_rfl
def rwScr (k c s g : Int) (b : Bool) (l : Ah) : Ah := (A1 130 9, .prim [.agg [di k, di c, db b, di s, di g], A5 0]) :: (A1 130 18, .b false) :: l
def rwOb (w k c s g : Int) (b : Bool) (l : List Prop) : List Prop := (AN [pu w] = some [.agg [di k, di c, db b, di s, di g], A5 0]) :: ((k == 0) = false) :: l
theorem rw_1 (w k c s g : Int) (b : Bool) (t : Tsk) : sV CP 130 [pu w, .agg t.cs] (rwScr k c s g b [(A1 130 24, .b false)]) = some ([A3 false], [], rwOb w k c s g b [decide (t.nice ≥ -20) = false]) := by kernel_rfl
theorem rw_2 (w k c s g : Int) (b : Bool) (t : Tsk) : sV CP 130 [pu w, .agg t.cs] (rwScr k c s g b [(A1 130 24, .b true), (A1 130 28, .b false)]) = some ([A3 false], [], rwOb w k c s g b [decide (t.nice ≥ -20) = true, decide (t.nice ≤ 19) = false]) := by kernel_rfl
theorem rw_3 (w k c s g : Int) (b : Bool) (t : Tsk) : sV CP 130 [pu w, .agg t.cs] (rwScr k c s g b [(A1 130 24, .b true), (A1 130 28, .b true), (A1 130 33, .b false)]) = some ([A3 false], [], rwOb w k c s g b [decide (t.nice ≥ -20) = true, decide (t.nice ≤ 19) = true, (t.mask != 0) = false]) := by kernel_rfl
theorem rw_4 (w k c s g : Int) (b : Bool) (t : Tsk) : sV CP 130 [pu w, .agg t.cs] (rwScr k c s g b [(A1 130 24, .b true), (A1 130 28, .b true), (A1 130 33, .b true), (A1 130 38, .b false)]) = some ([A3 false], [], rwOb w k c s g b [decide (t.nice ≥ -20) = true, decide (t.nice ≤ 19) = true, (t.mask != 0) = true, decide (t.lag ≥ -1125899906842624) = false]) := by kernel_rfl
theorem rw_5 (w k c s g : Int) (b z : Bool) (t : Tsk) : sV CP 130 [pu w, .agg t.cs] (rwScr k c s g b [(A1 130 24, .b true), (A1 130 28, .b true), (A1 130 33, .b true), (A1 130 38, .b true), (A1 130 43, .b z)]) = some ([A3 z], [], rwOb w k c s g b [decide (t.nice ≥ -20) = true, decide (t.nice ≤ 19) = true, (t.mask != 0) = true, decide (t.lag ≥ -1125899906842624) = true, decide (t.lag ≤ 1125899906842624) = z]) := by kernel_rfl
theorem unpackS_at {w : Nat} (h : w < 2 ^ 64) : AN [pu w] = some (unpackR w) := by
 have : (0 : Int) ≤ (w : Int) ∧ (w : Int) < 2 ^ 64 := ⟨by omega, by exact_mod_cast h⟩
 simp only [AN, pu]
 rw [if_pos this, Int.toNat_natCast]
theorem row_sat : AJ CP 130 rowS := Af (O := Ab) hPP (fun _ _ h => h.elim) Bm fun ps rs hs => by
 unfold rowS at hs
 split at hs
 ·rename_i w ni m la
  split at hs
  ·rename_i hc
   obtain ⟨n, rfl⟩ := Int.eq_ofNat_of_zero_le hc.1
   have hn : n < 2 ^ 64 := by have := hc.2; exact_mod_cast this
   simp only [Option.some.injEq, Int.toNat_natCast] at hs
   subst hs
   have hu := unpackS_at hn
   unfold unpackR at hu
   unfold rowOK
   cases hw : Ck n with
   | false =>
    rw [hw] at hu
    exact A4 (rw_bad n 0 0 0 0 false ⟨ni, m, la⟩) (A0 hu A2)
   | true =>
    rw [hw] at hu
    simp only [if_true, Bool.true_and] at hu ⊢
    by_cases hk : (At n).kind = 0
    ·rw [if_pos hk]
     exact A4 (rw_free n _ _ _ _ _ _ ⟨ni, m, la⟩) (A0 hu (A0 (by rw [hk]; rfl) (A0 (tsk_zero _) A2)))
    ·rw [if_neg hk]
     have b1 : (((At n).kind : Int) == 0) = false := by
      have : ¬ ((At n).kind : Int) = 0 := by omega
      simpa using this
     have no : ∀ (h : ¬ (-20 ≤ ni ∧ ni ≤ 19 ∧ m ≠ 0 ∧ -1125899906842624 ≤ la ∧ la ≤ 1125899906842624)), tskOK ⟨ni, m, la⟩ = false := fun h => decide_eq_false h
     by_cases h1 : -20 ≤ ni
     ·by_cases h2 : ni ≤ 19
      ·by_cases h3 : m = 0
       ·rw [no (fun h => h.2.2.1 h3)]
        exact A4 (rw_3 n _ _ _ _ _ ⟨ni, m, la⟩) (A0 hu (A0 b1 (A0 (decide_eq_true h1) (A0 (decide_eq_true h2) (A0 (by simp [h3]) A2)))))
       ·have b3 : (m != 0) = true := by simpa using h3
        by_cases h4 : -1125899906842624 ≤ la
        ·have : tskOK ⟨ni, m, la⟩ = decide (la ≤ 1125899906842624) := by
          unfold tskOK
          simp only [h1, h2, h3, h4, true_and, ne_eq, not_false_eq_true]
         rw [this]
         exact A4 (rw_5 n _ _ _ _ _ _ ⟨ni, m, la⟩) (A0 hu (A0 b1 (A0 (decide_eq_true h1) (A0 (decide_eq_true h2) (A0 b3 (A0 (decide_eq_true h4) (A0 rfl A2)))))))
        ·rw [no (fun h => h4 h.2.2.2.1)]
         exact A4 (rw_4 n _ _ _ _ _ ⟨ni, m, la⟩) (A0 hu (A0 b1 (A0 (decide_eq_true h1) (A0 (decide_eq_true h2) (A0 b3 (A0 (decide_eq_false h4) A2))))))
      ·rw [no (fun h => h2 h.2.1)]
       exact A4 (rw_2 n _ _ _ _ _ ⟨ni, m, la⟩) (A0 hu (A0 b1 (A0 (decide_eq_true h1) (A0 (decide_eq_false h2) A2))))
     ·rw [no (fun h => h1 h.1)]
      exact A4 (rw_1 n _ _ _ _ _ ⟨ni, m, la⟩) (A0 hu (A0 b1 (A0 (decide_eq_false h1) A2)))
  ·cases hs
 ·cases hs
theorem rowS_at {w : Nat} (h : w < 2 ^ 64) (t : Tsk) : rowS [pu w, .agg t.cs] = some [A3 (rowOK w t)] := by
 have : (0 : Int) ≤ (w : Int) ∧ (w : Int) < 2 ^ 64 := ⟨by omega, by exact_mod_cast h⟩
 simp only [rowS, pu, Tsk.cs, di]
 rw [if_pos this, Int.toNat_natCast]
noncomputable def CR8 : Ctx := Ad C0 130 rowS
theorem hPR8 : Aw CR8 := A7 BN (row_sat.ctx rfl rfl) (by kernel_rfl)
def tbH (ws ts : A8) : H := { objs := [(A1 74 1, 1, [.cells [.d (.mn 1 ws), .d (.mn 3 ts)] false])] }
def tbHd (ws ts : A8) (n : Nat) (i : Int) : St := { σ := Ap 35 [(1, .ptr (A1 74 1) 0 0), (19, .d (.mn 1 ws)), (20, vi n), (21, vi i)], h := tbH ws ts }
def tbOut (ws ts : A8) : St := { σ := Ap 35 [], h := tbH ws ts }
def tbRet (ws ts : A8) : St := { σ := Ap 35 [(2, vb false)], h := tbH ws ts }
theorem tb_exit (ws ts : A8) (n : Nat) (i : Int) : sM CR8 74 0 (tbHd ws ts n i) [(A1 74 22, .b false)] [] = some ((.exit 0, tbOut ws ts), [], [decide (i < (n : Int)) = false]) := by kernel_rfl
theorem tb_bad (ws ts : A8) (n : Nat) (i w : Int) (t : Tsk) : sM CR8 74 0 (tbHd ws ts n i) [(A1 74 22, .b true), (A1 74 24, .row [du w]), (A1 74 30, .row t.cs), (A1 74 32, .prim [A3 false])] [2] =
  some ((.ret, tbRet ws ts), [], [decide (i < (n : Int)) = true, 0 ≤ i ∧ ws[i.toNat]? = some [du w], 0 ≤ i ∧ ts[i.toNat]? = some t.cs, rowS [pu w, .agg t.cs] = some [A3 false]]) := by kernel_rfl
theorem tb_step (ws ts : A8) (n : Nat) (i i' w : Int) (t : Tsk) (X : X) (st : St) : AY CR8 Ab 60 (Lp 74 0 (tbHd ws ts n i)) [(A1 74 22, .b true), (A1 74 24, .row [du w]), (A1 74 30, .row t.cs), (A1 74 32, .prim [A3 true]), (A1 74 34, .int i'), (A1 74 8001, .loop [1, 19, 20, 21] X st)] =
  some (.code X st, [], [decide (i < (n : Int)) = true, 0 ≤ i ∧ ws[i.toNat]? = some [du w], 0 ≤ i ∧ ts[i.toNat]? = some t.cs, rowS [pu w, .agg t.cs] = some [A3 true], IntKind.wrap .i64 (i + 1) = i', Ev CR8 Ab (Lp 74 0 (tbHd ws ts n i')) (.code X st)]) := by kernel_rfl
theorem tb_long (ws ts : A8) : sV CR8 74 [.agg [.mn 1 ws, .mn 3 ts]] [(A1 74 8, .b true)] = some ([A3 false], [], [decide ((ws.length : Int) > 64) = true]) := by kernel_rfl
theorem tb_len (ws ts : A8) : sV CR8 74 [.agg [.mn 1 ws, .mn 3 ts]] [(A1 74 8, .b false), (A1 74 16, .b true)] = some ([A3 false], [], [decide ((ws.length : Int) > 64) = false, ((ws.length : Int) != (ts.length : Int)) = true]) := by kernel_rfl
theorem tb_no (ws ts : A8) : sV CR8 74 [.agg [.mn 1 ws, .mn 3 ts]] [(A1 74 8, .b false), (A1 74 16, .b false), (A1 74 8001, .loop [1, 19, 20, 21] .ret (tbRet ws ts))] =
  some ([A3 false], [], [decide ((ws.length : Int) > 64) = false, ((ws.length : Int) != (ts.length : Int)) = false, Ev CR8 Ab (Lp 74 0 (tbHd ws ts ws.length 0)) (.code .ret (tbRet ws ts))]) := by kernel_rfl
theorem tb_ok (ws ts : A8) : sV CR8 74 [.agg [.mn 1 ws, .mn 3 ts]] [(A1 74 8, .b false), (A1 74 16, .b false), (A1 74 8001, .loop [1, 19, 20, 21] (.exit 0) (tbOut ws ts))] =
  some ([A3 true], [], [decide ((ws.length : Int) > 64) = false, ((ws.length : Int) != (ts.length : Int)) = false, Ev CR8 Ab (Lp 74 0 (tbHd ws ts ws.length 0)) (.code (.exit 0) (tbOut ws ts))]) := by kernel_rfl
def wordR : List DV → Option Nat
 | [.v (.int .u64 w)] => if 0 ≤ w ∧ w < 2 ^ 64 then some w.toNat else none
 | _ => none
def tskR : List DV → Option Tsk
 | [.v (.int .i64 n), .v (.int .u64 m), .v (.int .i64 l)] => some ⟨n, m, l⟩
 | _ => none
def An (l : List Nat) : A8 := l.map fun w : Nat => [du (w : Int)]
def Aq (l : List Tsk) : A8 := l.map Tsk.cs
theorem wordR_eq {r : List DV} {w : Nat} (h : wordR r = some w) : r = [du w] ∧ w < 2 ^ 64 := by
 unfold wordR at h
 split at h
 ·rename_i v
  split at h
  ·rename_i hc
   obtain ⟨n, rfl⟩ := Int.eq_ofNat_of_zero_le hc.1
   have hn : n < 2 ^ 64 := by have := hc.2; exact_mod_cast this
   simp only [Option.some.injEq, Int.toNat_natCast] at h
   subst h
   exact ⟨rfl, hn⟩
  ·cases h
 ·cases h
theorem tskR_eq {r : List DV} {t : Tsk} (h : tskR r = some t) : r = t.cs := by
 unfold tskR at h
 split at h
 ·cases h
  rfl
 ·cases h
theorem wrows_of {rows : A8} {l : List Nat} (h : Ae wordR rows = some l) : rows = An l ∧ ∀ w ∈ l, w < 2 ^ 64 := by
 induction rows generalizing l with
 | nil => simp only [Ae, Option.some.injEq] at h; subst h; exact ⟨rfl, fun w hw => by cases hw⟩
 | cons r rows ih =>
  simp only [Ae] at h
  cases hx : wordR r with
  | none => simp [hx] at h
  | some x =>
   cases hy : Ae wordR rows with
   | none => simp [hx, hy] at h
   | some y =>
    simp only [hx, hy, Option.some.injEq] at h
    subst h
    obtain ⟨e, hb⟩ := ih hy
    obtain ⟨e1, h1⟩ := wordR_eq hx
    refine ⟨by rw [e, e1]; rfl, fun w hw => ?_⟩
    rcases List.mem_cons.1 hw with rfl | hw
    ·exact h1
    ·exact hb w hw
theorem trows_of {rows : A8} {l : List Tsk} (h : Ae tskR rows = some l) : rows = Aq l := by
 induction rows generalizing l with
 | nil => simp only [Ae, Option.some.injEq] at h; subst h; rfl
 | cons r rows ih =>
  simp only [Ae] at h
  cases hx : tskR r with
  | none => simp [hx] at h
  | some x =>
   cases hy : Ae tskR rows with
   | none => simp [hx, hy] at h
   | some y =>
    simp only [hx, hy, Option.some.injEq] at h
    subst h
    rw [ih hy, tskR_eq hx]
    rfl
def Cg (ws : List Nat) (ts : List Tsk) (i : Nat) : Bool := ((ws.zip ts).drop i).all fun x => rowOK x.1 x.2
def tabOK (ws : List Nat) (ts : List Tsk) : Bool := decide (ws.length ≤ 64) && (decide (ws.length = ts.length) && Cg ws ts 0)
def tabS : Spec
 | [.agg [.mn 1 rs, .mn 3 qs]] => match Ae wordR rs, Ae tskR qs with
  | some ws, some ts => some [A3 (tabOK ws ts)]
  | _, _ => none
 | _ => none
def tbRes (ws ts : A8) (ok : Bool) : X × St := if ok then (.exit 0, tbOut ws ts) else (.ret, tbRet ws ts)
theorem tb_loop (ws : List Nat) (ts : List Tsk) (hw : ∀ w ∈ ws, w < 2 ^ 64) (h64 : ws.length ≤ 64) (hl : ws.length = ts.length) : ∀ (d i : Nat), i + d = ws.length →
  Ev CR8 Ab (Lp 74 0 (tbHd (An ws) (Aq ts) ws.length i)) (.code (tbRes (An ws) (Aq ts) (Cg ws ts i)).1 (tbRes (An ws) (Aq ts) (Cg ws ts i)).2)
 | 0, i, h => by
  have : Cg ws ts i = true := by
   unfold Cg
   rw [List.drop_eq_nil_of_le (by rw [List.length_zip]; omega)]
   rfl
  rw [this]
  exact Ac (tb_exit _ _ _ _) (A0 (dge (by omega)) A2)
 | d + 1, i, h => by
  have hi : i < ws.length := by omega
  have hj : i < ts.length := by omega
  have hd : Cg ws ts i = (rowOK ws[i] ts[i] && Cg ws ts (i + 1)) := by
   unfold Cg
   rw [List.drop_eq_getElem_cons (by rw [List.length_zip]; omega), List.all_cons, List.getElem_zip]
  have hr : 0 ≤ (i : Int) ∧ (An ws)[((i : Int)).toNat]? = some [du (ws[i] : Nat)] := ⟨by omega, by simp [An, hi]⟩
  have hq : 0 ≤ (i : Int) ∧ (Aq ts)[((i : Int)).toNat]? = some (ts[i]).cs := ⟨by omega, by simp [Aq, hj]⟩
  have hs := rowS_at (hw _ (List.getElem_mem hi)) ts[i]
  have ih := tb_loop ws ts hw h64 hl d (i + 1) (by omega)
  rw [hd]
  cases hb : rowOK ws[i] ts[i] with
  | false =>
   rw [hb] at hs
   exact Ac (tb_bad _ _ _ _ _ _) (A0 (dlt hi) (A0 hr (A0 hq (A0 hs A2))))
  | true =>
   rw [hb] at hs
   rw [Bool.true_and]
   exact Aa _ _ _ _ _ _ (tb_step _ _ _ _ ((i + 1 : Nat) : Int) _ _ _ _) (A0 (dlt hi) (A0 hr (A0 hq (A0 hs (A0 (Ag (by omega)) (A0 ih A2))))))
theorem tabR_sat : AJ CR8 74 tabS := Af (O := Ab) hPR8 (fun _ _ h => h.elim) Bm fun ps rs hs => by
 unfold tabS at hs
 split at hs
 ·rename_i rs0 qs0
  split at hs
  ·rename_i ws ts h1 h2
   cases hs
   obtain ⟨rfl, hw⟩ := wrows_of h1
   obtain rfl := trows_of h2
   have lw : (An ws).length = ws.length := by simp [An]
   have lt : (Aq ts).length = ts.length := by simp [Aq]
   unfold tabOK
   by_cases h64 : ws.length ≤ 64
   ·have b0 : decide (((An ws).length : Int) > 64) = false := decide_eq_false (by rw [lw]; omega)
    rw [decide_eq_true h64, Bool.true_and]
    by_cases hl : ws.length = ts.length
    ·have b1 : (((An ws).length : Int) != ((Aq ts).length : Int)) = false := by rw [lw, lt, hl]; simp
     rw [decide_eq_true hl, Bool.true_and]
     have hk := tb_loop ws ts hw h64 hl ws.length 0 (by omega)
     rw [← lw] at hk
     cases hb : Cg ws ts 0 with
     | false => rw [hb] at hk; exact A4 (tb_no _ _) (A0 b0 (A0 b1 (A0 hk A2)))
     | true => rw [hb] at hk; exact A4 (tb_ok _ _) (A0 b0 (A0 b1 (A0 hk A2)))
    ·rw [decide_eq_false hl]
     exact A4 (tb_len _ _) (A0 b0 (A0 (by rw [lw, lt]; have : ¬ (ws.length : Int) = (ts.length : Int) := (by omega); simpa using this) A2))
   ·rw [decide_eq_false h64]
    exact A4 (tb_long _ _) (A0 (decide_eq_true (by rw [lw]; omega)) A2)
  ·cases hs
 ·cases hs
noncomputable def CDU : Ctx := Ad C0 95 AN
theorem hPDU : Aw CDU := A7 BN (unr_sat.ctx rfl rfl) (by kernel_rfl)
def tdH (ws ts : A8) : H := { objs := [(A1 86 1, 1, [.cells [.d (.mn 1 ws), .d (.mn 3 ts)] false])] }
def tdHd (ws ts : A8) (i : Int) : St := { σ := Ap 81 [(1, .ptr (A1 86 1) 0 0), (3, vi i)], h := tdH ws ts }
def tdOut (ws ts : A8) : St := { σ := Ap 81 [], h := tdH ws ts }
def tdRet (ws ts : A8) : St := { σ := Ap 81 [(2, vb false)], h := tdH ws ts }
def tdScr (w : Int) (x : List DV) (e : Int) (t : Tsk) (l : Ah) : Ah := (A1 86 24, .b true) :: (A1 86 31, .row [du w]) :: (A1 86 33, .prim [.agg x, A5 e]) :: (A1 86 39, .row t.cs) :: l
def tdX (k c s g : Int) (b : Bool) : List DV := [di k, di c, db b, di s, di g]
def tdOb (ws ts : A8) (i w : Int) (x : List DV) (e : Int) (t : Tsk) (l : List Prop) : List Prop :=
 (decide (i < (ws.length : Int)) = true) :: (0 ≤ i ∧ ws[i.toNat]? = some [du w]) :: (AN [pu w] = some [.agg x, A5 e]) :: (0 ≤ i ∧ ts[i.toNat]? = some t.cs) :: l
def tdL : List Nat := [A1 86 4, A1 86 6]
def td3 : List Prop := [true = true, true = true, true = true]
theorem td3_ok : AI td3 := A0 rfl (A0 rfl (A0 rfl A2))
noncomputable def tdS (ws ts : A8) (i : Int) (sc : Ah) : SM (X × St) := symD CDU Ab 60 86 false (BE Tryz.prog 86 0) (tdHd ws ts i) sc [2] tdL
noncomputable def tdN (ws ts : A8) (i : Int) (sc : Ah) : SM Res := AY CDU Ab 60 (Lp 86 0 (tdHd ws ts i)) sc
def tdNext (i' : Int) (X : X) (st : St) : Ah := [(A1 86 26, .int i'), (A1 86 8002, .drop tdL [1, 3]), (A1 86 8001, .loop [1, 3] X st)]
def tdNob (ws ts : A8) (i i' : Int) (X : X) (st : St) : List Prop := [IntKind.wrap .i64 (i + 1) = i', true = true, true = true, true = true, Ev CDU Ab (Lp 86 0 (tdHd ws ts i')) (.code X st)]
theorem td_exit (ws ts : A8) (i : Int) : sM CDU 86 0 (tdHd ws ts i) [(A1 86 24, .b false)] [] = some ((.exit 0, tdOut ws ts), [], [decide (i < (ws.length : Int)) = false]) := by kernel_rfl
theorem td_bad (ws ts : A8) (i w k c s g : Int) (b : Bool) (t : Tsk) : tdS ws ts i (tdScr w (tdX k c s g b) 1 t []) =
  some ((.ret, tdRet ws ts), [], tdOb ws ts i w (tdX k c s g b) 1 t td3) := by kernel_rfl
theorem td_f0 (ws ts : A8) (i w k c s g : Int) (b : Bool) (t : Tsk) : tdS ws ts i (tdScr w (tdX k c s g b) 0 t [(A1 86 46, .b true), (A1 86 50, .eqv false)]) =
  some ((.ret, tdRet ws ts), [], tdOb ws ts i w (tdX k c s g b) 0 t ([(k == 0) = true, Ar Tryz.prog (Op.equal 102 (vTsk t) (vTsk ⟨0, 0, 0⟩)) = some false] ++ td3)) := by kernel_rfl
theorem td_f1 (ws ts : A8) (i i' w k c s g : Int) (b : Bool) (t : Tsk) (X : X) (st : St) : tdN ws ts i (tdScr w (tdX k c s g b) 0 t ([(A1 86 46, .b true), (A1 86 50, .eqv true), (A1 86 55, .b false)] ++ tdNext i' X st)) =
  some (.code X st, [], tdOb ws ts i w (tdX k c s g b) 0 t ([(k == 0) = true, Ar Tryz.prog (Op.equal 102 (vTsk t) (vTsk ⟨0, 0, 0⟩)) = some true, (k != 0) = false] ++ tdNob ws ts i i' X st)) := by kernel_rfl
theorem td_n0 (ws ts : A8) (i w k c s g : Int) (b : Bool) (t : Tsk) : tdS ws ts i (tdScr w (tdX k c s g b) 0 t [(A1 86 46, .b false), (A1 86 55, .b true), (A1 86 59, .b true)]) =
  some ((.ret, tdRet ws ts), [], tdOb ws ts i w (tdX k c s g b) 0 t ([(k == 0) = false, (k != 0) = true, decide (t.nice < -20) = true] ++ td3)) := by kernel_rfl
theorem td_n1 (ws ts : A8) (i w k c s g : Int) (b : Bool) (t : Tsk) : tdS ws ts i (tdScr w (tdX k c s g b) 0 t [(A1 86 46, .b false), (A1 86 55, .b true), (A1 86 59, .b false), (A1 86 63, .b true)]) =
  some ((.ret, tdRet ws ts), [], tdOb ws ts i w (tdX k c s g b) 0 t ([(k == 0) = false, (k != 0) = true, decide (t.nice < -20) = false, decide (t.nice > 19) = true] ++ td3)) := by kernel_rfl
theorem td_n2 (ws ts : A8) (i w k c s g : Int) (b : Bool) (t : Tsk) : tdS ws ts i (tdScr w (tdX k c s g b) 0 t [(A1 86 46, .b false), (A1 86 55, .b true), (A1 86 59, .b false), (A1 86 63, .b false), (A1 86 68, .b true)]) =
  some ((.ret, tdRet ws ts), [], tdOb ws ts i w (tdX k c s g b) 0 t ([(k == 0) = false, (k != 0) = true, decide (t.nice < -20) = false, decide (t.nice > 19) = false, (t.mask == 0) = true] ++ td3)) := by kernel_rfl
theorem td_n3 (ws ts : A8) (i w k c s g : Int) (b : Bool) (t : Tsk) : tdS ws ts i (tdScr w (tdX k c s g b) 0 t [(A1 86 46, .b false), (A1 86 55, .b true), (A1 86 59, .b false), (A1 86 63, .b false), (A1 86 68, .b false), (A1 86 73, .b true)]) =
  some ((.ret, tdRet ws ts), [], tdOb ws ts i w (tdX k c s g b) 0 t ([(k == 0) = false, (k != 0) = true, decide (t.nice < -20) = false, decide (t.nice > 19) = false, (t.mask == 0) = false, decide (t.lag < -1125899906842624) = true] ++ td3)) := by kernel_rfl
theorem td_n4 (ws ts : A8) (i w k c s g : Int) (b : Bool) (t : Tsk) : tdS ws ts i (tdScr w (tdX k c s g b) 0 t [(A1 86 46, .b false), (A1 86 55, .b true), (A1 86 59, .b false), (A1 86 63, .b false), (A1 86 68, .b false), (A1 86 73, .b false), (A1 86 78, .b true)]) =
  some ((.ret, tdRet ws ts), [], tdOb ws ts i w (tdX k c s g b) 0 t ([(k == 0) = false, (k != 0) = true, decide (t.nice < -20) = false, decide (t.nice > 19) = false, (t.mask == 0) = false, decide (t.lag < -1125899906842624) = false, decide (t.lag > 1125899906842624) = true] ++ td3)) := by kernel_rfl
theorem td_n5 (ws ts : A8) (i i' w k c s g : Int) (b : Bool) (t : Tsk) (X : X) (st : St) : tdN ws ts i (tdScr w (tdX k c s g b) 0 t ([(A1 86 46, .b false), (A1 86 55, .b true), (A1 86 59, .b false), (A1 86 63, .b false), (A1 86 68, .b false), (A1 86 73, .b false), (A1 86 78, .b false)] ++ tdNext i' X st)) =
  some (.code X st, [], tdOb ws ts i w (tdX k c s g b) 0 t ([(k == 0) = false, (k != 0) = true, decide (t.nice < -20) = false, decide (t.nice > 19) = false, (t.mask == 0) = false, decide (t.lag < -1125899906842624) = false, decide (t.lag > 1125899906842624) = false] ++ tdNob ws ts i i' X st)) := by kernel_rfl
theorem td_long (ws ts : A8) : sV CDU 86 [.agg [.mn 1 ws, .mn 3 ts]] [(A1 86 10, .b true)] = some ([A3 false], [], [decide ((ws.length : Int) > 64) = true]) := by kernel_rfl
theorem td_len (ws ts : A8) : sV CDU 86 [.agg [.mn 1 ws, .mn 3 ts]] [(A1 86 10, .b false), (A1 86 18, .b true)] = some ([A3 false], [], [decide ((ws.length : Int) > 64) = false, ((ws.length : Int) != (ts.length : Int)) = true]) := by kernel_rfl
theorem td_no (ws ts : A8) : sV CDU 86 [.agg [.mn 1 ws, .mn 3 ts]] [(A1 86 10, .b false), (A1 86 18, .b false), (A1 86 8001, .loop [1, 3] .ret (tdRet ws ts))] =
  some ([A3 false], [], [decide ((ws.length : Int) > 64) = false, ((ws.length : Int) != (ts.length : Int)) = false, Ev CDU Ab (Lp 86 0 (tdHd ws ts 0)) (.code .ret (tdRet ws ts))]) := by kernel_rfl
theorem td_ok (ws ts : A8) : sV CDU 86 [.agg [.mn 1 ws, .mn 3 ts]] [(A1 86 10, .b false), (A1 86 18, .b false), (A1 86 8001, .loop [1, 3] (.exit 0) (tdOut ws ts))] =
  some ([A3 true], [], [decide ((ws.length : Int) > 64) = false, ((ws.length : Int) != (ts.length : Int)) = false, Ev CDU Ab (Lp 86 0 (tdHd ws ts 0)) (.code (.exit 0) (tdOut ws ts))]) := by kernel_rfl
def tdRes (ws ts : A8) (ok : Bool) : X × St := if ok then (.exit 0, tdOut ws ts) else (.ret, tdRet ws ts)
theorem AQ {a b : List Prop} (ha : AI a) (hb : AI b) : AI (a ++ b) := fun p hp => by
 rcases List.mem_append.1 hp with h | h
 ·exact ha p h
 ·exact hb p h
theorem td_loop (ws : List Nat) (ts : List Tsk) (hw : ∀ w ∈ ws, w < 2 ^ 64) (h64 : ws.length ≤ 64) (hl : ws.length = ts.length) : ∀ (d i : Nat), i + d = ws.length →
  Ev CDU Ab (Lp 86 0 (tdHd (An ws) (Aq ts) i)) (.code (tdRes (An ws) (Aq ts) (Cg ws ts i)).1 (tdRes (An ws) (Aq ts) (Cg ws ts i)).2)
 | 0, i, h => by
  have : Cg ws ts i = true := by
   unfold Cg
   rw [List.drop_eq_nil_of_le (by rw [List.length_zip]; omega)]
   rfl
  rw [this]
  exact Ac (td_exit _ _ _) (A0 (dge (by simp [An]; omega)) A2)
 | d + 1, i, h => by
  have hi : i < ws.length := by omega
  have hj : i < ts.length := by omega
  have hd : Cg ws ts i = (rowOK ws[i] ts[i] && Cg ws ts (i + 1)) := by
   unfold Cg
   rw [List.drop_eq_getElem_cons (by rw [List.length_zip]; omega), List.all_cons, List.getElem_zip]
  have hr : 0 ≤ (i : Int) ∧ (An ws)[((i : Int)).toNat]? = some [du (ws[i] : Nat)] := ⟨by omega, by simp [An, hi]⟩
  have hq : 0 ≤ (i : Int) ∧ (Aq ts)[((i : Int)).toNat]? = some (ts[i]).cs := ⟨by omega, by simp [Aq, hj]⟩
  have hb : decide ((i : Int) < ((An ws).length : Int)) = true := decide_eq_true (by simp [An]; omega)
  have hu := unpackS_at (hw _ (List.getElem_mem hi))
  have ih := td_loop ws ts hw h64 hl d (i + 1) (by omega)
  have ob : ∀ {x : List DV} {e : Int} {l : List Prop}, AN [pu ((ws[i] : Nat) : Int)] = some [.agg x, A5 e] → AI l → AI (tdOb (An ws) (Aq ts) i (ws[i] : Nat) x e ts[i] l) :=
   fun h1 h2 => A0 hb (A0 hr (A0 h1 (A0 hq h2)))
  have nx : ∀ X st, Ev CDU Ab (Lp 86 0 (tdHd (An ws) (Aq ts) ((i + 1 : Nat) : Int))) (.code X st) → AI (tdNob (An ws) (Aq ts) i ((i + 1 : Nat) : Int) X st) :=
   fun X st h1 => A0 (Ag (by omega)) (A0 rfl (A0 rfl (A0 rfl (A0 h1 A2))))
  unfold unpackR at hu
  rw [hd]
  unfold rowOK
  cases hwd : Ck ws[i] with
  | false =>
   rw [hwd] at hu
   exact B4 (td_bad _ _ _ _ 0 0 0 0 false ts[i]) (ob hu td3_ok)
  | true =>
   rw [hwd] at hu
   simp only [if_true, Bool.true_and] at hu ⊢
   by_cases hk : (At ws[i]).kind = 0
   ·rw [if_pos hk]
    have k0 : (((At ws[i]).kind : Int) == 0) = true := by rw [hk]; rfl
    have k1 : (((At ws[i]).kind : Int) != 0) = false := by rw [hk]; rfl
    cases hz : tskZ ts[i] with
    | false => exact B4 (td_f0 _ _ _ _ _ _ _ _ _ ts[i]) (ob hu (AQ (A0 k0 (A0 (by rw [tsk_zero, hz]) A2)) td3_ok))
    | true =>
     rw [Bool.true_and]
     exact Aa _ _ _ _ _ _ (td_f1 _ _ _ _ _ _ _ _ _ _ ts[i] _ _) (ob hu (AQ (A0 k0 (A0 (by rw [tsk_zero, hz]) (A0 k1 A2))) (nx _ _ ih)))
   ·rw [if_neg hk]
    have k0 : (((At ws[i]).kind : Int) == 0) = false := by
     have : ¬ ((At ws[i]).kind : Int) = 0 := by omega
     simpa using this
    have k1 : (((At ws[i]).kind : Int) != 0) = true := by
     have : ¬ ((At ws[i]).kind : Int) = 0 := by omega
     simpa using this
    generalize ts[i] = t at ob ⊢
    have no : ∀ (h : ¬ (-20 ≤ t.nice ∧ t.nice ≤ 19 ∧ t.mask ≠ 0 ∧ -1125899906842624 ≤ t.lag ∧ t.lag ≤ 1125899906842624)), tskOK t = false := fun h => decide_eq_false h
    by_cases h1 : -20 ≤ t.nice
    ·have c1 : decide (t.nice < -20) = false := decide_eq_false (by omega)
     by_cases h2 : t.nice ≤ 19
     ·have c2 : decide (t.nice > 19) = false := decide_eq_false (by omega)
      by_cases h3 : t.mask = 0
      ·rw [no (fun h => h.2.2.1 h3)]
       exact B4 (td_n2 _ _ _ _ _ _ _ _ _ t) (ob hu (AQ (A0 k0 (A0 k1 (A0 c1 (A0 c2 (A0 (by simp [h3]) A2))))) td3_ok))
      ·have c3 : (t.mask == 0) = false := by simpa using h3
       by_cases h4 : -1125899906842624 ≤ t.lag
       ·have c4 : decide (t.lag < -1125899906842624) = false := decide_eq_false (by omega)
        by_cases h5 : t.lag ≤ 1125899906842624
        ·have yes : tskOK t = true := decide_eq_true ⟨h1, h2, h3, h4, h5⟩
         rw [yes, Bool.true_and]
         exact Aa _ _ _ _ _ _ (td_n5 _ _ _ _ _ _ _ _ _ _ t _ _) (ob hu (AQ (A0 k0 (A0 k1 (A0 c1 (A0 c2 (A0 c3 (A0 c4 (A0 (decide_eq_false (by omega)) A2))))))) (nx _ _ ih)))
        ·rw [no (fun h => h5 h.2.2.2.2)]
         exact B4 (td_n4 _ _ _ _ _ _ _ _ _ t) (ob hu (AQ (A0 k0 (A0 k1 (A0 c1 (A0 c2 (A0 c3 (A0 c4 (A0 (decide_eq_true (by omega)) A2))))))) td3_ok))
       ·rw [no (fun h => h4 h.2.2.2.1)]
        exact B4 (td_n3 _ _ _ _ _ _ _ _ _ t) (ob hu (AQ (A0 k0 (A0 k1 (A0 c1 (A0 c2 (A0 c3 (A0 (decide_eq_true (by omega)) A2)))))) td3_ok))
     ·rw [no (fun h => h2 h.2.1)]
      exact B4 (td_n1 _ _ _ _ _ _ _ _ _ t) (ob hu (AQ (A0 k0 (A0 k1 (A0 c1 (A0 (decide_eq_true (by omega)) A2)))) td3_ok))
    ·rw [no (fun h => h1 h.1)]
     exact B4 (td_n0 _ _ _ _ _ _ _ _ _ t) (ob hu (AQ (A0 k0 (A0 k1 (A0 (decide_eq_true (by omega)) A2))) td3_ok))
theorem tabD_sat : AJ CDU 86 tabS := Af (O := Ab) hPDU (fun _ _ h => h.elim) Bm fun ps rs hs => by
 unfold tabS at hs
 split at hs
 ·rename_i rs0 qs0
  split at hs
  ·rename_i ws ts h1 h2
   cases hs
   obtain ⟨rfl, hw⟩ := wrows_of h1
   obtain rfl := trows_of h2
   have lw : (An ws).length = ws.length := by simp [An]
   have lt : (Aq ts).length = ts.length := by simp [Aq]
   unfold tabOK
   by_cases h64 : ws.length ≤ 64
   ·have b0 : decide (((An ws).length : Int) > 64) = false := decide_eq_false (by rw [lw]; omega)
    rw [decide_eq_true h64, Bool.true_and]
    by_cases hl : ws.length = ts.length
    ·have b1 : (((An ws).length : Int) != ((Aq ts).length : Int)) = false := by rw [lw, lt, hl]; simp
     rw [decide_eq_true hl, Bool.true_and]
     have hk := td_loop ws ts hw h64 hl ws.length 0 (by omega)
     cases hb : Cg ws ts 0 with
     | false => rw [hb] at hk; exact A4 (td_no _ _) (A0 b0 (A0 b1 (A0 hk A2)))
     | true => rw [hb] at hk; exact A4 (td_ok _ _) (A0 b0 (A0 b1 (A0 hk A2)))
    ·rw [decide_eq_false hl]
     exact A4 (td_len _ _) (A0 b0 (A0 (by rw [lw, lt]; have : ¬ (ws.length : Int) = (ts.length : Int) := (by omega); simpa using this) A2))
   ·rw [decide_eq_false h64]
    exact A4 (td_long _ _) (A0 (decide_eq_true (by rw [lw]; omega)) A2)
  ·cases hs
 ·cases hs
end Go.Ev
