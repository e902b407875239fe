/- What the proof of this claim needs: part MC. No conditions. -/
import Derived.Test.YtbgdnghnfdijnaaGreatDoorMB
import Derived.Test.YtbgdnghnfdijnaaGreatDoorRows
set_option linter.unusedVariables false
set_option linter.unusedSimpArgs false
namespace Go.Ev
open Go Go.RowKit
inductive Dec where
 | b (t : Bool)
 | int (n : Int)
 | row (r : List DV)
 | idx (n : Nat)
 | cut (l hg m : Nat) (a : AV)
 | app (e : Bool)
 | eqv (t : Bool)
 | prim (rs : List PV)
 | look (a : AV)
 | upd (es : List (Value × Bool × List DV))
 | ld (a : AV)
 | sto (cs : List AV)
 | drop (L keep : List Nat)
 | ari (k : IntKind) (n : Int)
 | cpy (a : AV) (h : H)
 | mks (k : Nat)
 | loop (keep : List Nat) (x : X) (s : St)
 | call (a : AV) (h : H)
abbrev Ah := List (Nat × Dec)
def rowAddr (C : Ctx) (o : Oper) (ρ : Operand → AV) : Option (A8 × Int) :=
 match o.op with
 | .indexAddr t x i => match intOfA (ρ i), C.P.underlying t with
  | some i, some (.slice elem) => match AR C elem with
   | some sz => match ρ x with
    | .d (.sl sz' _ rows) | .st sz' rows _ _ => if sz' = sz then some (rows, i) else none
    | .d (.mn sz' rows) => if sz' = sz then some (rows, i) else none
    | _ => none
   | none => none
  | _, _ => none
 | _ => none
theorem rowAddr_op {C : Ctx} {fn : FuncId} {o : Oper} {ρ : Operand → AV} {h : H} {rows : A8} {i : Int} {r : List DV} (e : rowAddr C o ρ = some (rows, i)) (h0 : 0 ≤ i) (hr : rows[i.toNat]? = some r) :
  AA C fn o ρ h = some (.pin r 0, h) := by
 have hlt : i < rows.length := by
  have := (List.getElem?_eq_some_iff.1 hr).1
  omega
 unfold rowAddr at e
 split at e
 ·rename_i t x i' hop
  split at e
  ·rename_i i2 elem hi ht
   split at e
   ·rename_i sz hs
    split at e
    ·rename_i sz' f rows' hx
     split at e
     ·rename_i hsz
      simp only [Option.some.injEq, Prod.mk.injEq] at e
      obtain ⟨rfl, rfl⟩ := e
      simp [AA, hop, BX, hi, ht, hs, hx, hsz, h0, hlt, hr]
      exact (List.getElem?_eq_some_iff.1 hr).2
     ·cases e
    ·rename_i sz' rows' s g hx
     split at e
     ·rename_i hsz
      simp only [Option.some.injEq, Prod.mk.injEq] at e
      obtain ⟨rfl, rfl⟩ := e
      simp [AA, hop, BX, hi, ht, hs, hx, hsz, h0, hlt, hr]
      exact (List.getElem?_eq_some_iff.1 hr).2
     ·cases e
    ·rename_i sz' rows' hx
     split at e
     ·rename_i hsz
      simp only [Option.some.injEq, Prod.mk.injEq] at e
      obtain ⟨rfl, rfl⟩ := e
      simp [AA, hop, BX, hi, ht, hs, hx, hsz, h0, hlt, hr]
      exact (List.getElem?_eq_some_iff.1 hr).2
     ·cases e
    ·cases e
   ·cases e
  ·cases e
 ·cases e
def idxAddr (C : Ctx) (o : Oper) (ρ : Operand → AV) (n : Nat) : Option (AV × Nat × Int) :=
 match o.op with
 | .indexAddr t x i => match intOfA (ρ i), C.P.underlying t with
  | some i, some (.array len elem) => match AR C elem with
   | some sz => match addOff (ρ x) (n * sz) with
    | some a => some (a, len, i)
    | none => none
   | none => none
  | some i, some (.slice elem) => match AR C elem with
   | some sz => match ρ x with
    | .hs s g off len sz' => if sz' = sz then some (.ptr s g (off + n * sz), len, i) else none
    | _ => none
   | none => none
  | _, _ => none
 | _ => none
theorem idxAddr_op {C : Ctx} {fn : FuncId} {o : Oper} {ρ : Operand → AV} {h : H} {n len : Nat} {i : Int} {a : AV} (e : idxAddr C o ρ n = some (a, len, i)) (hi : i = n) (hn : n < len) :
  AA C fn o ρ h = some (a, h) := by
 subst hi
 have hlt : (n : Int) < len := by omega
 unfold idxAddr at e
 split at e
 ·rename_i t x i' hop
  split at e
  ·rename_i i2 len' elem hi ht
   split at e
   ·rename_i sz hs
    split at e
    ·rename_i a' ha
     simp only [Option.some.injEq, Prod.mk.injEq] at e
     obtain ⟨rfl, rfl, rfl⟩ := e
     simp [AA, hop, BX, hi, ht, hs, hlt, ha]
    ·cases e
   ·cases e
  ·rename_i i2 elem hi ht
   split at e
   ·rename_i sz hs
    split at e
    ·rename_i s g off len' sz' hx
     split at e
     ·rename_i hsz
      simp only [Option.some.injEq, Prod.mk.injEq] at e
      obtain ⟨rfl, rfl, rfl⟩ := e
      simp [AA, hop, BX, hi, ht, hs, hx, hsz, hlt]
     ·cases e
    ·cases e
   ·cases e
  ·cases e
 ·cases e
theorem still_bind' {P : Program} {α β : Type} {s : Sem α} {f : α → Sem β} : Ar P (s >>= f) = (Ar P s).bind fun a => Ar P (f a) := by
 show Ar P (s.bind f) = _
 induction s with
 | pure b => rfl
 | program k ih => simp only [Sem.bind, Ar]; exact ih P
 | mark m k ih => simp only [Sem.bind, Ar]; exact ih
 | _ => rfl
def eqvOf (C : Ctx) (o : Oper) (ρ : Operand → AV) (t : Bool) : Option (Bool × Prop) :=
 match o.op with
 | .binOp op ty x y _ => match toV (ρ x), toV (ρ y) with
  | some (.agg xs), some (.agg ys) => match Ar C.P (eqGuard op ty x y (.agg xs) (.agg ys)) with
   | some _ => match op with
    | .eql => some (t, Ar C.P (Op.equal ty (.agg xs) (.agg ys)) = some t)
    | .neq => some (!t, Ar C.P (Op.equal ty (.agg xs) (.agg ys)) = some t)
    | _ => none
   | none => none
  | _, _ => none
 | _ => none
theorem eqvOf_op {C : Ctx} {fn : FuncId} {o : Oper} {ρ : Operand → AV} {h : H} {t b : Bool} {p : Prop} (e : eqvOf C o ρ t = some (b, p)) (hp : p) : AA C fn o ρ h = some (.d (.v (.bool b)), h) := by
 unfold eqvOf at e
 split at e
 ·rename_i op ty x y yt hop
  split at e
  ·rename_i xs ys hx hy
   split at e
   ·rename_i u hg
    have key : ∀ r, Ar C.P (binOp op ty (.agg xs) (.agg ys)) = some r → B5 C o ρ = some (ofV r) := by
     intro r hr
     unfold B5
     have hall : (o.op.operands.toList.all fun x => (toV (ρ x)).isSome) = true := by simp [hop, Op.operands, hx, hy]
     rw [if_pos hall]
     have he : Ar C.P (execOp (fun x => (toV (ρ x)).getD undef) o) = some (.value r) := by
      simp only [execOp, hop, hx, hy, Option.getD_some]
      simp only [still_bind', hg, hr, Option.bind_some]
      rfl
     rw [he]
    split at e
    ·simp only [Option.some.injEq, Prod.mk.injEq] at e
     obtain ⟨rfl, rfl⟩ := e
     have := key (.bool t) (by simp only [binOp, still_bind', hp, Option.bind_some]; rfl)
     simp [AA, hop, this, ofV, ofV1]
    ·simp only [Option.some.injEq, Prod.mk.injEq] at e
     obtain ⟨rfl, rfl⟩ := e
     have := key (.bool (!t)) (by simp only [binOp, still_bind', hp, Option.bind_some]; rfl)
     simp [AA, hop, this, ofV, ofV1]
    ·cases e
   ·cases e
  ·cases e
 ·cases e
def primOf (C : Ctx) (o : Oper) (ρ : Operand → AV) (h : H) : Option ((List PV → Option (List PV)) × List PV × H) :=
 match o.op with
 | .call c => match c.callee with
  | .value f => match BO (ρ f) with
   | some (.fn (.func g), first, cap) => match C.prim g with
    | some spec => match Ba h (first ++ c.args.toList.map ρ ++ cap) with
     | some (ps, h1) => some (spec, ps, h1)
     | none => none
    | none => none
   | _ => none
  | .invoke rv m => match methA C (ρ rv) m with
   | some (g, recv) => match C.prim g with
    | some spec => match Ba h (recv :: c.args.toList.map ρ) with
     | some (ps, h1) => some (spec, ps, h1)
     | none => none
    | none => none
   | none => none
  | _ => none
 | _ => none
theorem primOf_op {C : Ctx} {fn : FuncId} {o : Oper} {ρ : Operand → AV} {h h1 : H} {spec : List PV → Option (List PV)} {ps rs : List PV} (e : primOf C o ρ h = some (spec, ps, h1)) (hp : spec ps = some rs) :
  AA C fn o ρ h = some (ofPVs rs, if scalarR rs then h else h1) := by
 unfold primOf at e
 split at e
 ·rename_i c hop
  split at e
  ·rename_i f hcal
   split at e
   ·rename_i g first cap hg
    split at e
    ·rename_i spec' hs
     split at e
     ·rename_i ps' h1' hf
      simp only [Option.some.injEq, Prod.mk.injEq] at e
      obtain ⟨rfl, rfl, rfl⟩ := e
      simp only [AA, hop, hcal, hg, hs, hf, hp]
     ·cases e
    ·cases e
   ·cases e
  ·rename_i rv m hcal
   split at e
   ·rename_i g recv hg
    split at e
    ·rename_i spec' hs
     split at e
     ·rename_i ps' h1' hf
      simp only [Option.some.injEq, Prod.mk.injEq] at e
      obtain ⟨rfl, rfl, rfl⟩ := e
      simp only [AA, hop, hcal, hg, hs, hf, hp]
     ·cases e
    ·cases e
   ·cases e
  ·cases e
 ·cases e
def Am (n m by_ : Nat) : Prop := (2 * (n + m) + 1000) * by_ ≤ 2 ^ 47
def appS (C : Ctx) (fn : FuncId) (dst : Option Tmp) (e : Bool) (sz by_ : Nat) (s : AV) (more : A8) (h : H) : Option (AV × H × Prop) :=
 if C.nt fn (dst.getD 8000) then
  match s with
  | .d (.v (.slice none 0 0)) => if e then some (s, h, more.isEmpty = true) else some (.d (.sl sz false more), h, more.isEmpty = false ∧ Am 0 more.length by_)
  | .d (.sl sz' true rows) => if sz' = sz then (if e then some (s, h, more.isEmpty = true) else some (.d (.sl sz false (rows ++ more)), h, more.isEmpty = false ∧ Am rows.length more.length by_)) else none
  | _ => none
 else if C.wr fn (dst.getD 8000) && !e then
  match s with
  | .d (.v (.slice none 0 0)) => some (.hs (Au fn dst) (h.count (Au fn dst)) 0 (0 + more.length) sz, h.push (Au fn dst) (.cells ([] ++ more.flatten.map .d) false), more.isEmpty = false ∧ Am 0 more.length by_)
  | .d (.sl sz' true rows) => if sz' = sz then some (.hs (Au fn dst) (h.count (Au fn dst)) 0 (rows.length + more.length) sz, h.push (Au fn dst) (.cells (rows.flatten.map .d ++ more.flatten.map .d) false), more.isEmpty = false ∧ Am rows.length more.length by_) else none
  | .hs s0 g0 off len sz' => match h.get s0 g0 with
   | some (.cells cs false) => if sz' = sz then some (.hs (Au fn dst) ((h.set s0 g0 .dead).count (Au fn dst)) 0 (len + more.length) sz, (h.set s0 g0 .dead).push (Au fn dst) (.cells (cs ++ more.flatten.map .d) false),
     more.isEmpty = false ∧ (off = 0 ∧ 0 < len ∧ cs.length = len * sz) ∧ Am len more.length by_) else none
   | _ => none
  | _ => none
 else
  match s with
  | .d (.v (.slice none 0 0)) => if e then some (s, h, more.isEmpty = true) else some (.st sz ([] ++ more) (Au fn dst) (h.tok (Au fn dst) + 1), h.setTok (Au fn dst) (h.tok (Au fn dst) + 1), more.isEmpty = false ∧ Am 0 more.length by_)
  | .d (.sl sz' true rows) => if sz' = sz then (if e then some (s, h, more.isEmpty = true) else some (.st sz (rows ++ more) (Au fn dst) (h.tok (Au fn dst) + 1), h.setTok (Au fn dst) (h.tok (Au fn dst) + 1), more.isEmpty = false ∧ Am rows.length more.length by_)) else none
  | .st sz' rows s0 g0 => if sz' = sz then some (.st sz (rows ++ more) (Au fn dst) ((h.setTok s0 (g0 + 1)).tok (Au fn dst) + 1), (h.setTok s0 (g0 + 1)).setTok (Au fn dst) ((h.setTok s0 (g0 + 1)).tok (Au fn dst) + 1), more.isEmpty = e ∧ h.tok s0 = g0 ∧ Am rows.length more.length by_) else none
  | _ => none
def appOf (C : Ctx) (fn : FuncId) (o : Oper) (ρ : Operand → AV) (h : H) (e : Bool) : Option (AV × H × Prop) :=
 match o.op with
 | .call { callee := .builtin .append, args := args, argTypes := ats } => match args.toList, ats.toList with
  | [s, x], [t, u] => match C.P.underlying u with
   | some (.slice _) => match C.P.underlying t with
    | some (.slice elem) => match AR C elem, bytesT C elem, BL C elem with
     | some sz, some by_, some z => match appArg sz h (ρ x) with
      | some (sz1, more) => if sz1 = sz ∧ z.cells.size = sz ∧ 0 < sz ∧ 0 < by_ then appS C fn o.dst e sz by_ (ρ s) more h else none
      | none => none
     | _, _, _ => none
    | _ => none
   | _ => none
  | _, _ => none
 | _ => none
theorem appOf_op {C : Ctx} {fn : FuncId} {o : Oper} {ρ : Operand → AV} {h h' : H} {e : Bool} {a : AV} {p : Prop} (he : appOf C fn o ρ h e = some (a, h', p)) (hp : p) : AA C fn o ρ h = some (a, h') := by
 unfold appOf at he
 split at he
 ·rename_i args ats hop
  split at he
  ·rename_i s x t u ha hts
   split at he
   ·rename_i eu hu
    split at he
    ·rename_i elem ht
     split at he
     ·rename_i sz by_ z e1 e2 e3
      split at he
      ·rename_i sz1 more em
       split at he
       ·rename_i hc
        simp only [AA, hop, ha, hts, hu, appendOp, ht, e1, e2, e3, em]
        rw [if_pos hc]
        unfold appS at he
        generalize ρ s = sv at he ⊢
        split at he
        ·rename_i hnt
         rw [if_pos hnt]
         unfold ntAppend
         split at he
         ·split at he
          ·simp only [Option.some.injEq, Prod.mk.injEq] at he
           obtain ⟨rfl, rfl, rfl⟩ := he
           simp [hp]
          ·simp only [Option.some.injEq, Prod.mk.injEq] at he
           obtain ⟨rfl, rfl, rfl⟩ := he
           obtain ⟨p1, p2⟩ := hp
           unfold Am at p2
           simp only [Nat.zero_add] at p2
           simp only [p1]
           simp
           simpa using p2
         ·split at he
          ·rename_i hsz
           split at he
           ·simp only [Option.some.injEq, Prod.mk.injEq] at he
            obtain ⟨rfl, rfl, rfl⟩ := he
            simp [hp, hsz]
           ·simp only [Option.some.injEq, Prod.mk.injEq] at he
            obtain ⟨rfl, rfl, rfl⟩ := he
            obtain ⟨p1, p2⟩ := hp
            unfold Am at p2
            simp only [p1, hsz]
            simp
            simpa using p2
          ·cases he
         ·cases he
        ·rename_i hnt
         rw [if_neg hnt]
         split at he
         ·rename_i hwr
          simp only [Bool.and_eq_true, Bool.not_eq_true'] at hwr
          obtain ⟨hwr, rfl⟩ := hwr
          have hne : ∀ q : Prop, (more.isEmpty = false ∧ q) → (C.wr fn (o.dst.getD 8000) && !more.isEmpty) = true := fun q hq => by simp [hwr, hq.1]
          split at he
          ·simp only [Option.some.injEq, Prod.mk.injEq] at he
           obtain ⟨rfl, rfl, rfl⟩ := he
           rw [if_pos (hne _ hp)]
           obtain ⟨p1, p2⟩ := hp
           unfold Am at p2
           simp only [ownAppend, p1, ownNew]
           rw [if_pos p2]; rfl
          ·split at he
           ·rename_i hsz
            simp only [Option.some.injEq, Prod.mk.injEq] at he
            obtain ⟨rfl, rfl, rfl⟩ := he
            rw [if_pos (hne _ hp)]
            obtain ⟨p1, p2⟩ := hp
            unfold Am at p2
            simp only [ownAppend, p1, ownNew, hsz]
            rw [if_pos p2]; rfl
           ·cases he
          ·rename_i s0 g0 off len sz'
           split at he
           ·rename_i cs eg
            split at he
            ·rename_i hsz
             simp only [Option.some.injEq, Prod.mk.injEq] at he
             obtain ⟨rfl, rfl, rfl⟩ := he
             rw [if_pos (hne _ hp)]
             obtain ⟨p1, ⟨q1, q2, q3⟩, p2⟩ := hp
             unfold Am at p2
             simp only [ownAppend, p1, ownNew, eg]
             rw [if_pos (⟨hsz, q1, q2, q3⟩ : sz' = sz ∧ off = 0 ∧ 0 < len ∧ cs.length = len * sz), if_pos p2]; rfl
            ·cases he
           ·cases he
          ·cases he
         ·rename_i hwr
          have hno : more.isEmpty = e → ¬ (C.wr fn (o.dst.getD 8000) && !more.isEmpty) = true := fun h => by rw [h]; exact hwr
          split at he
          ·split at he
           ·rename_i htr
            simp only [Option.some.injEq, Prod.mk.injEq] at he
            obtain ⟨rfl, rfl, rfl⟩ := he
            rw [if_neg (hno (hp.trans htr.symm))]
            simp [hp]
           ·rename_i htr
            simp only [Option.some.injEq, Prod.mk.injEq] at he
            obtain ⟨rfl, rfl, rfl⟩ := he
            obtain ⟨p1, p2⟩ := hp
            rw [if_neg (hno (by rw [p1]; simpa using htr))]
            unfold Am at p2
            simp only [p1]
            simp
            simpa using p2
          ·split at he
           ·rename_i hsz
            split at he
            ·rename_i htr
             simp only [Option.some.injEq, Prod.mk.injEq] at he
             obtain ⟨rfl, rfl, rfl⟩ := he
             rw [if_neg (hno (hp.trans htr.symm))]
             simp [hp, hsz]
            ·rename_i htr
             simp only [Option.some.injEq, Prod.mk.injEq] at he
             obtain ⟨rfl, rfl, rfl⟩ := he
             obtain ⟨p1, p2⟩ := hp
             rw [if_neg (hno (by rw [p1]; simpa using htr))]
             unfold Am at p2
             simp only [p1, hsz]
             simp
             simpa using p2
           ·cases he
          ·split at he
           ·rename_i hsz
            simp only [Option.some.injEq, Prod.mk.injEq] at he
            obtain ⟨rfl, rfl, rfl⟩ := he
            obtain ⟨p1, p3, p2⟩ := hp
            rw [if_neg (hno p1)]
            unfold Am at p2
            simp only [hsz, p3, and_self, if_true]
            simp
            simpa using p2
           ·cases he
          ·cases he
       ·cases he
      ·cases he
     ·cases he
    ·cases he
   ·cases he
  ·cases he
 ·cases he
def bndOf (ρ : Operand → AV) : Option Operand → Option (Option Int)
 | none => some none
 | some x => match intOfA (ρ x) with
  | some i => some (some i)
  | none => none
def bnd (o : Option Int) (d n : Nat) : Prop := match o with
 | none => n = d
 | some i => i = n
theorem BF {ρ : Operand → AV} {x : Option Operand} {o : Option Int} {d n : Nat} (e : bndOf ρ x = some o) (hb : bnd o d n) : Bt ρ d x = some n := by
 cases x with
 | none =>
  simp only [bndOf, Option.some.injEq] at e
  subst e
  simp only [bnd] at hb
  simp [Bt, hb]
 | some x =>
  simp only [bndOf] at e
  split at e
  ·rename_i i hi
   cases e
   simp only [bnd] at hb
   subst hb
   simp [Bt, hi]
  ·cases e
def cutOf (C : Ctx) (o : Oper) (ρ : Operand → AV) : Option (Nat × AV × Option Int × Option Int × Option Int) :=
 match o.op with
 | .slice t x lo hi mx => match C.P.underlying t with
  | some (.slice elem) => match AR C elem, bndOf ρ lo, bndOf ρ hi, bndOf ρ mx with
   | some sz, some l, some hg, some m => if mx.isSome && !hi.isSome then none else some (sz, ρ x, l, hg, m)
   | _, _, _, _ => none
  | _ => none
 | _ => none
def cutGoal (sz : Nat) (x : AV) (lo hi mx : Option Int) (l hg m : Nat) (a : AV) : Prop :=
 match x with
 | .d (.sl sz' full rows) => sz' = sz ∧ bnd lo 0 l ∧ bnd hi rows.length hg ∧ bnd mx rows.length m ∧ l ≤ hg ∧ hg ≤ m ∧ m ≤ rows.length ∧
   a = .d (.sl sz ((mx.isSome && decide (m = hg)) || (full && mx.isNone && decide (hg = rows.length))) ((rows.drop l).take (hg - l)))
 | .st sz' rows _ _ => sz' = sz ∧ bnd lo 0 l ∧ bnd hi rows.length hg ∧ bnd mx rows.length m ∧ l ≤ hg ∧ hg ≤ m ∧ m ≤ rows.length ∧ a = .d (.sl sz (mx.isSome && decide (m = hg)) ((rows.drop l).take (hg - l)))
 | .hs s g off len sz' => sz' = sz ∧ bnd lo 0 l ∧ bnd hi len hg ∧ bnd mx len m ∧ l ≤ hg ∧ hg ≤ m ∧ m ≤ len ∧ a = .hs s g (off + l * sz) (hg - l) sz
 | .d (.mn sz' rows) => (sz' = sz ∧ 0 < rows.length) ∧ bnd lo 0 l ∧ bnd hi rows.length hg ∧ bnd mx rows.length m ∧ l ≤ hg ∧ hg ≤ m ∧ m ≤ rows.length ∧ a = .d (.sl sz (mx.isSome && decide (m = hg)) ((rows.drop l).take (hg - l)))
 | _ => False
theorem bndOf_some {ρ : Operand → AV} {x : Option Operand} {o : Option Int} (e : bndOf ρ x = some o) : o.isSome = x.isSome := by
 cases x with
 | none => simp only [bndOf, Option.some.injEq] at e; subst e; rfl
 | some x =>
  simp only [bndOf] at e
  split at e
  ·cases e; rfl
  ·cases e
theorem cutOf_op {C : Ctx} {fn : FuncId} {o : Oper} {ρ : Operand → AV} {h : H} {sz : Nat} {x : AV} {lo hi mx : Option Int} {l hg m : Nat} {a : AV} (e : cutOf C o ρ = some (sz, x, lo, hi, mx)) (hp : cutGoal sz x lo hi mx l hg m a) :
  AA C fn o ρ h = some (a, h) := by
 unfold cutOf at e
 split at e
 ·rename_i t x' lo' hi' mx' hop
  split at e
  ·rename_i elem ht
   split at e
   ·rename_i sz1 l1 h1 m1 es e1 e2 e3
    split at e
    ·cases e
    ·rename_i hmx
     simp only [Option.some.injEq, Prod.mk.injEq] at e
     obtain ⟨rfl, rfl, rfl, rfl, rfl⟩ := e
     have hc4 : mx'.isSome = true → hi'.isSome = true := by cases mx' <;> cases hi' <;> simp_all
     have em := bndOf_some e3
     have en : m1.isNone = mx'.isNone := by cases m1 <;> cases mx' <;> simp_all
     unfold cutGoal at hp
     split at hp
     ·rename_i sz' full rows hx
      obtain ⟨rfl, b1, b2, b3, c1, c2, c3, rfl⟩ := hp
      have g1 := BF e1 b1
      have g2 := BF e2 b2
      have g3 := BF e3 b3
      simp only [AA, hop, sliceOp, ht, hx, lenA, g1, g2, g3, es]
      rw [if_pos ⟨c1, c2, c3, hc4⟩]
      simp [em, en]
     ·rename_i sz' rows s g hx
      obtain ⟨rfl, b1, b2, b3, c1, c2, c3, rfl⟩ := hp
      have g1 := BF e1 b1
      have g2 := BF e2 b2
      have g3 := BF e3 b3
      simp only [AA, hop, sliceOp, ht, hx, lenA, g1, g2, g3, es]
      rw [if_pos ⟨c1, c2, c3, hc4⟩]
      simp [em]
     ·rename_i s g off len sz' hx
      obtain ⟨rfl, b1, b2, b3, c1, c2, c3, rfl⟩ := hp
      have g1 := BF e1 b1
      have g2 := BF e2 b2
      have g3 := BF e3 b3
      simp only [AA, hop, sliceOp, ht, hx, lenA, g1, g2, g3, es]
      rw [if_pos ⟨c1, c2, c3, hc4⟩]
      simp
     ·rename_i sz' rows hx
      obtain ⟨⟨rfl, hpos⟩, b1, b2, b3, c1, c2, c3, rfl⟩ := hp
      have g1 := BF e1 b1
      have g2 := BF e2 b2
      have g3 := BF e3 b3
      simp only [AA, hop, sliceOp, ht, hx, lenA, g1, g2, g3, es]
      rw [if_pos ⟨c1, c2, c3, hc4⟩]
      simp [em, hpos]
     ·exact hp.elim
   ·cases e
  ·cases e
 ·cases e
def lookOf (o : Oper) (ρ : Operand → AV) (h : H) : Option (TypeId × List (Value × Bool × List DV) × AV × Bool) :=
 match o.op with
 | .lookup t m k ok => match mapEs h (ρ m) with
  | some es => some (t, es, ρ k, ok)
  | none => none
 | _ => none
theorem lookOf_op {C : Ctx} {fn : FuncId} {o : Oper} {ρ : Operand → AV} {h : H} {t : TypeId} {es : List (Value × Bool × List DV)} {k a : AV} {ok : Bool} (e : lookOf o ρ h = some (t, es, k, ok)) (hp : Bv C t es k ok = some a) : AA C fn o ρ h = some (a, h) := by
 unfold lookOf at e
 split at e
 ·rename_i t' m k' ok' hop
  split at e
  ·rename_i es' hes
   simp only [Option.some.injEq, Prod.mk.injEq] at e
   obtain ⟨rfl, rfl, rfl, rfl⟩ := e
   simp only [AA, hop, hes, hp]
  ·cases e
 ·cases e
def updEs (C : Ctx) (t : TypeId) (es : List (Value × Bool × List DV)) (k x : AV) : Option (List (Value × Bool × List DV)) :=
 match C.P.underlying t, toV k, Ae cellD (AX x) with
 | some (.map kt _), some kv, some ds => match Ar C.P (Instr.checkKey false 10000 kt kv), keyAt C kt kv es with
  | some _, some none => some (es ++ [(kv, isAggA x, ds)])
  | some _, some (some (i, _)) => match es[i]? with
   | some e => if Instr.sameBits 10000 e.1 kv then some (es.set i (kv, isAggA x, ds)) else none
   | none => none
  | _, _ => none
 | _, _, _ => none
theorem updEs_op {C : Ctx} {t : TypeId} {es es' : List (Value × Bool × List DV)} {s g : Nat} {k x : AV} {h : H} (hg : h.get s g = some (.map es false)) (hp : updEs C t es k x = some es') : updateOp C t (.mp s g) k x h = some (h.set s g (.map es' false)) := by
 unfold updEs at hp
 split at hp
 ·rename_i kt et kv ds e1 e2 e3
  simp only [updateOp, e1, e2, e3, hg]
  split at hp
  ·rename_i u q1 q2
   simp only [Option.some.injEq] at hp
   subst hp
   simp only [q1, q2]
  ·rename_i u i ds' q1 q2
   simp only [q1, q2]
   split at hp
   ·rename_i e q3
    split at hp
    ·rename_i q4
     simp only [Option.some.injEq] at hp
     subst hp
     simp only [q3, q4, if_true]
    ·cases hp
   ·cases hp
  ·cases hp
 ·cases hp
def updOf (o : Oper) (ρ : Operand → AV) (h : H) : Option (TypeId × Nat × Nat × List (Value × Bool × List DV) × AV × AV) :=
 match o.op with
 | .mapUpdate t m k x => match ρ m with
  | .mp s g => match h.get s g with
   | some (.map es false) => some (t, s, g, es, ρ k, ρ x)
   | _ => none
  | _ => none
 | _ => none
theorem updOf_op {C : Ctx} {fn : FuncId} {o : Oper} {ρ : Operand → AV} {h : H} {t : TypeId} {s g : Nat} {es es' : List (Value × Bool × List DV)} {k x : AV} (e : updOf o ρ h = some (t, s, g, es, k, x)) (hp : updEs C t es k x = some es') :
  AA C fn o ρ h = some (B7, h.set s g (.map es' false)) := by
 unfold updOf at e
 split at e
 ·rename_i t' m k' x' hop
  split at e
  ·rename_i s' g' hm
   split at e
   ·rename_i es0 hg
    simp only [Option.some.injEq, Prod.mk.injEq] at e
    obtain ⟨rfl, rfl, rfl, rfl, rfl, rfl⟩ := e
    simp only [AA, hop, hm, updEs_op hg hp]
   ·cases e
  ·cases e
 ·cases e
def entOf (o : Oper) (ρ : Operand → AV) (h : H) : Option (List (Value × Bool × List DV) × Nat) :=
 match o.op with
 | .entry it => match ρ it with
  | .ptr s g 0 => match h.get s g with
   | some (.iter es (i :: _)) => some (es, i)
   | _ => none
  | _ => none
 | _ => none
def loadAt (C : Ctx) (o : Oper) (ρ : Operand → AV) (h : H) : Option (TypeId × List AV × Nat) :=
 match o.op with
 | .load t a => match ρ a with
  | .ptr s g off => match h.get s g with
   | some (.cells cs _) => some (t, cs, off)
   | _ => none
  | _ => none
 | _ => none
theorem loadAt_op {C : Ctx} {fn : FuncId} {o : Oper} {ρ : Operand → AV} {h : H} {t : TypeId} {cs : List AV} {off : Nat} {a : AV} (e : loadAt C o ρ h = some (t, cs, off)) (hp : AE C t cs off = some a) : AA C fn o ρ h = some (a, h) := by
 unfold loadAt at e
 split at e
 ·rename_i t' x hop
  split at e
  ·rename_i s g off' hx
   split at e
   ·rename_i cs' fz hg
    simp only [Option.some.injEq, Prod.mk.injEq] at e
    obtain ⟨rfl, rfl, rfl⟩ := e
    simp only [AA, hop, hx, loadOp, hg, hp]
   ·cases e
  ·cases e
 ·cases e
def stoEq (C : Ctx) (t : TypeId) (cs : List AV) (off : Nat) (x : AV) (cs' : List AV) : Prop :=
 ∃ n, AR C t = some n ∧ (AX x).length = n ∧ off + n ≤ cs.length ∧ (AX x).all isCell = true ∧ cs' = AL cs off (AX x)
def storeAt (o : Oper) (ρ : Operand → AV) (h : H) : Option (TypeId × Nat × Nat × List AV × Nat × AV) :=
 match o.op with
 | .store t a x => match ρ a with
  | .ptr s g off => match h.get s g with
   | some (.cells cs false) => some (t, s, g, cs, off, ρ x)
   | _ => none
  | _ => none
 | _ => none
theorem storeAt_op {C : Ctx} {fn : FuncId} {o : Oper} {ρ : Operand → AV} {h : H} {t : TypeId} {s g off : Nat} {cs cs' : List AV} {x : AV} (e : storeAt o ρ h = some (t, s, g, cs, off, x)) (hp : stoEq C t cs off x cs') :
  AA C fn o ρ h = some (B7, h.set s g (.cells cs' false)) := by
 unfold storeAt at e
 split at e
 ·rename_i t' a' x' hop
  split at e
  ·rename_i s' g' off' hx
   split at e
   ·rename_i cs0 hg
    simp only [Option.some.injEq, Prod.mk.injEq] at e
    obtain ⟨rfl, rfl, rfl, rfl, rfl, rfl⟩ := e
    obtain ⟨n, q1, q2, q3, q4, rfl⟩ := hp
    simp only [AA, hop, hx, storeOp, hg, q1]
    rw [if_pos ⟨q2, q3, q4⟩]
   ·cases e
  ·cases e
 ·cases e
def ariOf (C : Ctx) (o : Oper) (ρ : Operand → AV) (k : IntKind) (n : Int) : Option Prop :=
 match o.op with
 | .binOp op ty x y _ => match ρ x, ρ y with
  | .d (.v (.int k1 a)), .d (.v (.int k2 b)) => some (Ar C.P (binOp op ty (.int k1 a) (.int k2 b)) = some (.int k n))
  | _, _ => none
 | _ => none
theorem ariOf_op {C : Ctx} {fn : FuncId} {o : Oper} {ρ : Operand → AV} {h : H} {k : IntKind} {n : Int} {p : Prop} (e : ariOf C o ρ k n = some p) (hp : p) : AA C fn o ρ h = some (.d (.v (.int k n)), h) := by
 unfold ariOf at e
 split at e
 ·rename_i op ty x y yt hop
  split at e
  ·rename_i k1 a k2 b hx hy
   cases e
   have hx' : toV (ρ x) = some (.int k1 a) := by rw [hx]; rfl
   have hy' : toV (ρ y) = some (.int k2 b) := by rw [hy]; rfl
   have key : B5 C o ρ = some (.d (.v (.int k n))) := by
    unfold B5
    have hall : (o.op.operands.toList.all fun x => (toV (ρ x)).isSome) = true := by simp [hop, Op.operands, hx', hy']
    rw [if_pos hall]
    have he : Ar C.P (execOp (fun x => (toV (ρ x)).getD undef) o) = some (.value (.int k n)) := by
     have hg : Ar C.P (eqGuard op ty x y (.int k1 a) (.int k2 b)) = some () := by
      unfold eqGuard
      cases op <;> rfl
     simp only [execOp, hop, hx', hy', Option.getD_some]
     simp only [still_bind', hg, hp, Option.bind_some]
     rfl
    rw [he]
    rfl
   simp [AA, hop, key]
  ·cases e
 ·cases e
def slotAt (i : Nat) : List (Nat × AV) → AV
 | [] => .top
 | (j, a) :: r => if j = i then a else slotAt i r
def cpyOf (C : Ctx) (o : Oper) (ρ : Operand → AV) : Option (TypeId × Nat × Nat × Nat × Nat × Nat × AV) :=
 match o.op with
 | .call { callee := .builtin .copy, args := args, argTypes := ats } => match args.toList, ats.toList with
  | [d, x], [t, u] => match C.P.underlying t, C.P.underlying u, ρ d with
   | some (.slice elem), some (.slice _), .hs s g off len sz => some (elem, s, g, off, len, sz, ρ x)
   | _, _, _ => none
  | _, _ => none
 | _ => none
theorem cpyOf_op {C : Ctx} {fn : FuncId} {o : Oper} {ρ : Operand → AV} {h h' : H} {elem : TypeId} {s g off len sz : Nat} {x a : AV} (e : cpyOf C o ρ = some (elem, s, g, off, len, sz, x)) (hp : copyOp C elem s g off len sz x h = some (a, h')) :
  AA C fn o ρ h = some (a, h') := by
 unfold cpyOf at e
 split at e
 ·rename_i args ats hop
  split at e
  ·rename_i d y t u ha hts
   split at e
   ·rename_i el eu s' g' off' len' sz' ht hu hd
    simp only [Option.some.injEq, Prod.mk.injEq] at e
    obtain ⟨rfl, rfl, rfl, rfl, rfl, rfl, rfl⟩ := e
    simp only [AA, hop, ha, hts, ht, hu, hd, hp]
   ·cases e
  ·cases e
 ·cases e
def mksOf (C : Ctx) (fn : FuncId) (o : Oper) (ρ : Operand → AV) (h : H) (k : Nat) : Option (AV × H × Prop) :=
 match o.op with
 | .makeSlice t l c => match C.P.underlying t, intOfA (ρ l), intOfA (ρ c) with
  | some (.slice elem), some li, some ci => match AR C elem, bytesT C elem, BL C elem with
   | some n, some by_, some z => some (.hs (Au fn o.dst) (h.count (Au fn o.dst)) 0 k n,
     h.push (Au fn o.dst) (.cells ((List.replicate k (z.cells.toList.map fun c => AV.d (.v c))).flatten) false),
     li = k ∧ ci = k ∧ k * by_ ≤ 2 ^ 40 ∧ k ≤ 2 ^ 40 ∧ 0 < n ∧ z.cells.size = n)
   | _, _, _ => none
  | _, _, _ => none
 | _ => none
theorem mksOf_op {C : Ctx} {fn : FuncId} {o : Oper} {ρ : Operand → AV} {h h' : H} {k : Nat} {a : AV} {p : Prop} (e : mksOf C fn o ρ h k = some (a, h', p)) (hp : p) : AA C fn o ρ h = some (a, h') := by
 unfold mksOf at e
 split at e
 ·rename_i t l c hop
  split at e
  ·rename_i elem li ci ht hl hc
   split at e
   ·rename_i n by_ z e1 e2 e3
    simp only [Option.some.injEq, Prod.mk.injEq] at e
    obtain ⟨rfl, rfl, rfl⟩ := e
    obtain ⟨rfl, rfl, p1, p2, p3, p4⟩ := hp
    simp only [AA, hop, ht, hl, hc, e1, e2, e3]
    have q1 : (0 : Int) ≤ (k : Int) := by omega
    rw [if_pos ⟨q1, trivial, by exact_mod_cast p1, by exact_mod_cast p2, p3, p4⟩]
    simp
   ·cases e
  ·cases e
 ·cases e
def Ap (n : Nat) (l : List (Nat × AV)) : List AV := (List.range n).map fun i => slotAt i l
def decOp (C : Ctx) (fn : FuncId) (o : Oper) (ρ : Operand → AV) (h : H) : Dec → Option (AV × H × Prop)
 | .b t => match AA C fn o ρ h with
  | some (.d (.v (.bool b)), h') => some (.d (.v (.bool t)), h', b = t)
  | _ => none
 | .int n => match AA C fn o ρ h with
  | some (.d (.v (.int k e)), h') => some (.d (.v (.int k n)), h', e = n)
  | _ => none
 | .row r => match rowAddr C o ρ with
  | some (rows, i) => some (.pin r 0, h, 0 ≤ i ∧ rows[i.toNat]? = some r)
  | none => none
 | .idx n => match idxAddr C o ρ n with
  | some (a, len, i) => some (a, h, i = n ∧ n < len)
  | none => none
 | .prim rs => match primOf C o ρ h with
  | some (spec, ps, h1) => some (ofPVs rs, if scalarR rs then h else h1, spec ps = some rs)
  | none => none
 | .eqv t => match eqvOf C o ρ t with
  | some (b, p) => some (.d (.v (.bool b)), h, p)
  | none => none
 | .ari k n => match ariOf C o ρ k n with
  | some p => some (.d (.v (.int k n)), h, p)
  | none => none
 | .cpy a h' => match cpyOf C o ρ with
  | some (elem, s, g, off, len, sz, x) => some (a, h', copyOp C elem s g off len sz x h = some (a, h'))
  | none => none
 | .mks k => mksOf C fn o ρ h k
 | .look a => match lookOf o ρ h with
  | some (t, es, k, ok) => some (a, h, Bv C t es k ok = some a)
  | none => none
 | .upd es' => match updOf o ρ h with
  | some (t, s, g, es, k, x) => some (B7, h.set s g (.map es' false), updEs C t es k x = some es')
  | none => none
 | .ld a => match loadAt C o ρ h with
  | some (t, cs, off) => some (a, h, AE C t cs off = some a)
  | none => none
 | .sto cs' => match storeAt o ρ h with
  | some (t, s, g, cs, off, x) => some (B7, h.set s g (.cells cs' false), stoEq C t cs off x cs')
  | none => none
 | .app e => appOf C fn o ρ h e
 | .cut l hg m a => match cutOf C o ρ with
  | some (sz, x, lo, hi, mx) => some (a, h, cutGoal sz x lo hi mx l hg m a)
  | none => none
 | _ => none
theorem decOp_op {C : Ctx} {fn : FuncId} {o : Oper} {ρ : Operand → AV} {h h' : H} {d : Dec} {a : AV} {p : Prop} (e : decOp C fn o ρ h d = some (a, h', p)) (hp : p) : AA C fn o ρ h = some (a, h') := by
 cases d with
 | b t =>
  simp only [decOp] at e
  split at e
  ·rename_i b h2 eo
   simp only [Option.some.injEq, Prod.mk.injEq] at e
   obtain ⟨rfl, rfl, rfl⟩ := e
   rw [eo, hp]
  ·cases e
 | int n =>
  simp only [decOp] at e
  split at e
  ·rename_i k b h2 eo
   simp only [Option.some.injEq, Prod.mk.injEq] at e
   obtain ⟨rfl, rfl, rfl⟩ := e
   rw [eo, hp]
  ·cases e
 | row r =>
  simp only [decOp] at e
  split at e
  ·rename_i rows i eo
   simp only [Option.some.injEq, Prod.mk.injEq] at e
   obtain ⟨rfl, rfl, rfl⟩ := e
   exact rowAddr_op eo hp.1 hp.2
  ·cases e
 | idx n =>
  simp only [decOp] at e
  split at e
  ·rename_i a' len i eo
   simp only [Option.some.injEq, Prod.mk.injEq] at e
   obtain ⟨rfl, rfl, rfl⟩ := e
   exact idxAddr_op eo hp.1 hp.2
  ·cases e
 | prim rs =>
  simp only [decOp] at e
  split at e
  ·rename_i spec ps h1 eo
   simp only [Option.some.injEq, Prod.mk.injEq] at e
   obtain ⟨rfl, rfl, rfl⟩ := e
   exact primOf_op eo hp
  ·cases e
 | eqv t =>
  simp only [decOp] at e
  split at e
  ·rename_i b p1 eo
   simp only [Option.some.injEq, Prod.mk.injEq] at e
   obtain ⟨rfl, rfl, rfl⟩ := e
   exact eqvOf_op eo hp
  ·cases e
 | ari k n =>
  simp only [decOp] at e
  split at e
  ·rename_i p1 eo
   simp only [Option.some.injEq, Prod.mk.injEq] at e
   obtain ⟨rfl, rfl, rfl⟩ := e
   exact ariOf_op eo hp
  ·cases e
 | cpy a' h2 =>
  simp only [decOp] at e
  split at e
  ·rename_i elem s g off len sz x eo
   simp only [Option.some.injEq, Prod.mk.injEq] at e
   obtain ⟨rfl, rfl, rfl⟩ := e
   exact cpyOf_op eo hp
  ·cases e
 | mks k =>
  simp only [decOp] at e
  exact mksOf_op e hp
 | look a' =>
  simp only [decOp] at e
  split at e
  ·rename_i t es k ok eo
   simp only [Option.some.injEq, Prod.mk.injEq] at e
   obtain ⟨rfl, rfl, rfl⟩ := e
   exact lookOf_op eo hp
  ·cases e
 | upd es' =>
  simp only [decOp] at e
  split at e
  ·rename_i t s g es k x eo
   simp only [Option.some.injEq, Prod.mk.injEq] at e
   obtain ⟨rfl, rfl, rfl⟩ := e
   exact updOf_op eo hp
  ·cases e
 | ld a' =>
  simp only [decOp] at e
  split at e
  ·rename_i t cs off eo
   simp only [Option.some.injEq, Prod.mk.injEq] at e
   obtain ⟨rfl, rfl, rfl⟩ := e
   exact loadAt_op eo hp
  ·cases e
 | sto cs' =>
  simp only [decOp] at e
  split at e
  ·rename_i t s g cs off x eo
   simp only [Option.some.injEq, Prod.mk.injEq] at e
   obtain ⟨rfl, rfl, rfl⟩ := e
   exact storeAt_op eo hp
  ·cases e
 | app em => exact appOf_op e hp
 | cut l hg m a' =>
  simp only [decOp] at e
  split at e
  ·rename_i sz x lo hi mx eo
   simp only [Option.some.injEq, Prod.mk.injEq] at e
   obtain ⟨rfl, rfl, rfl⟩ := e
   exact cutOf_op eo hp
  ·cases e
 | drop => cases e
 | loop => cases e
 | call => cases e
def headOf (slot : Nat) : Ah → Option (Dec × Ah)
 | (sl, d) :: rest => if sl == slot then some (d, rest) else none
 | [] => none
abbrev SM (α : Type) := Option (α × Ah × List Prop)
abbrev RecS := Task → Ah → SM Res
def sCode (rec : RecS) (fn : FuncId) (rd : Bool) (c : Code) (s : St) (sc : Ah) : SM (X × St) :=
 match rec (.code fn rd c s) sc with
 | some (.code x s', sc', ob) => some ((x, s'), sc', ob)
 | _ => none
def sOps (rec : RecS) (fn : FuncId) (ops : Array Oper) (l : List Nat) (s : St) (sc : Ah) : SM St :=
 match rec (.ops fn ops l s) sc with
 | some (.ops s', sc', ob) => some (s', sc', ob)
 | _ => none
def sDraws (rec : RecS) (fn : FuncId) (ops : Array Oper) (l : List Nat) (s : St) (sc : Ah) : SM St :=
 match rec (.draws fn ops l s) sc with
 | some (.ops s', sc', ob) => some (s', sc', ob)
 | _ => none
def sVal (rec : RecS) (t : Task) (sc : Ah) : SM (AV × H) :=
 match rec t sc with
 | some (.val a h, sc', ob) => some ((a, h), sc', ob)
 | _ => none
variable (C : Ctx) (O : Task → Res → Prop)
def symStep (dr : Bool) (fn : FuncId) (ops : Array Oper) (i : Nat) (s : St) (sc : Ah) : SM St :=
 match ops[i]? with
 | none => some (s, sc, [])
 | some o =>
  if gknown ops s.σ o then
   if AH ops s.σ o then
    if !dr || byVal C fn ops s.σ o then
     match headOf (Au fn o.dst) sc with
     | some (d, sc') => match decOp C fn o (Az s.σ) s.h d with
      | some (a, h, p) => some (s.put o.dst a h, sc', [p])
      | none => match AA C fn o (Az s.σ) s.h with
       | some (a, h) => some (s.put o.dst a h, sc, [])
       | none => none
     | none => match AA C fn o (Az s.σ) s.h with
      | some (a, h) => some (s.put o.dst a h, sc, [])
      | none => none
    else none
   else some (s.put o.dst B7 s.h, sc, [])
  else none
def symCall (rec : RecS) (fn : FuncId) (ops : Array Oper) (i : Nat) (s : St) (sc : Ah) : SM St :=
 match ops[i]? with
 | some o =>
  if wantA ops s.σ o then
   match o.op with
   | .call c => match c.callee with
    | .value f => match BO (Az s.σ f) with
     | some (.fn (.func g), first, cap) =>
      if hasBody C g then
       match headOf (Au fn o.dst) sc with
       | some (.call a h1, sc') => some (s.put o.dst a h1, sc', [Ev C O (.call g (first ++ c.args.toList.map (Az s.σ) ++ cap) s.h) (.val a h1)])
       | _ => match sVal rec (.call g (first ++ c.args.toList.map (Az s.σ) ++ cap) s.h) sc with
        | some ((a, h1), sc', ob) => some (s.put o.dst a h1, sc', ob)
        | none => none
      else none
     | _ => none
    | .invoke rv m => match methA C (Az s.σ rv) m with
     | some (g, recv) =>
      if hasBody C g then
       match headOf (Au fn o.dst) sc with
       | some (.call a h1, sc') => some (s.put o.dst a h1, sc', [Ev C O (.call g ([recv] ++ c.args.toList.map (Az s.σ)) s.h) (.val a h1)])
       | _ => match sVal rec (.call g ([recv] ++ c.args.toList.map (Az s.σ)) s.h) sc with
        | some ((a, h1), sc', ob) => some (s.put o.dst a h1, sc', ob)
        | none => none
      else none
     | none => none
    | _ => none
   | _ => none
  else none
 | none => none
def addKept (h : H) : SM St → SM St
 | some (s1, sc1, ob) => some (s1, sc1, ob ++ [AllKept h s1.h])
 | none => none
def BZ (rec : RecS) : RecS
 | .code fn rd c s, sc => match c with
  | .skip => some (.code .normal s, sc, [])
  | .label _ => some (.code .normal s, sc, [])
  | .region _ ops draws =>
   if draws then
    if drawOK C fn ops then
     match sDraws rec fn ops (List.range ops.size) s sc with
     | some (s', sc', ob) => some (.code .normal s', sc', ob)
     | none => none
    else none
   else match sOps rec fn ops (List.range ops.size) s sc with
    | some (s', sc', ob) => some (.code .normal s', sc', ob)
    | none => none
  | .seq a b => match sCode rec fn rd a s sc with
   | some ((.normal, s1), sc1, ob1) => match sCode rec fn rd b s1 sc1 with
    | some ((x, s2), sc2, ob2) => some (.code x s2, sc2, ob1 ++ ob2)
    | none => none
   | some ((x, s1), sc1, ob1) => some (.code x s1, sc1, ob1)
   | none => none
  | .cond c a b => match Az s.σ c with
   | .d (.v (.bool t)) => match sCode rec fn rd (if t then a else b) s sc with
    | some ((x, s1), sc1, ob1) => some (.code x s1, sc1, ob1)
    | none => none
   | _ => none
  | .block id a => match sCode rec fn rd a s sc with
   | some ((x, s1), sc1, ob1) => some (.code (x.inBlock id) s1, sc1, ob1)
   | none => none
  | .loop a => match headOf (A1 fn 8001) sc with
   | some (.loop keep x s1, sc') => some (.code x s1, sc', [Ev C O (.code fn rd (.loop a) (s.mask keep)) (.code x s1)])
   | _ => match sCode rec fn rd a s sc with
    | some ((.normal, s1), sc1, ob1) => match headOf (A1 fn 8002) sc1 with
     | some (.drop L keep, sc1') =>
       match sCode rec fn rd (.loop a) { σ := (s1.mask keep).σ, h := (s1.mask keep).h.drop L } sc1' with
       | some ((x, s2), sc2, ob2) => some (.code x s2, sc2, (ob1 ++ [hNone L s.h = true, hFree L (s1.mask keep).h = true, AT L (s1.mask keep).σ = true]) ++ ob2)
       | none => none
     | _ => match sCode rec fn rd (.loop a) s1 sc1 with
      | some ((x, s2), sc2, ob2) => some (.code x s2, sc2, ob1 ++ ob2)
      | none => none
    | some ((x, s1), sc1, ob1) => some (.code x s1, sc1, ob1)
    | none => none
  | .exit id => some (.code (.exit id) s, sc, [])
  | .goto l => some (.code (.goto l) s, sc, [])
  | .ret => some (.code .ret s, sc, [])
  | _ => none
 | .ops fn ops l s, sc => match l with
  | [] => some (.ops s, sc, [])
  | i :: r => match (match symStep C false fn ops i s sc with | some y => some y | none => symCall C O rec fn ops i s sc) with
   | some (s1, sc1, ob1) => match sOps rec fn ops r s1 sc1 with
    | some (s2, sc2, ob2) => some (.ops s2, sc2, ob1 ++ ob2)
    | none => none
   | none => none
 | .draws fn ops l s, sc => match l with
  | [] => some (.ops s, sc, [])
  | i :: r => match (match symStep C true fn ops i s sc with | some y => some y | none => if ((ops[i]?).map fun o => Bc C fn o == 3).getD false then symCall C O rec fn ops i s sc else if ((ops[i]?).map fun o => Bc C fn o == 6).getD false then addKept s.h (symCall C O rec fn ops i s sc) else none) with
   | some (s1, sc1, ob1) => match sDraws rec fn ops r s1 sc1 with
    | some (s2, sc2, ob2) => some (.ops s2, sc2, ob1 ++ ob2)
    | none => none
   | none => none
 | .call f args h, sc => match C.P.funcs[f]? with
  | some fd => match fd.body with
   | some c => match splitD c with
    | none => match sCode rec f false c { σ := args ++ List.replicate (fd.ntmps - args.length) B7, h := h } sc with
     | some ((.normal, s), sc1, ob1) | some ((.ret, s), sc1, ob1) => match Cw C fd s with
      | some a => some (.val a s.h, sc1, ob1)
      | none => none
     | _ => none
    | some (c0, id, ops, o, cal, fop, c2) => match sCode rec f false c0 { σ := args ++ List.replicate (fd.ntmps - args.length) B7, h := h } sc with
     | some ((.normal, s0), sc1, ob1) => match sOps rec f ops (List.range (ops.size - 1)) s0 sc1 with
      | some (s1, sc2, ob2) => match BO (Az s1.σ fop) with
       | some (.fn (.func g), first, cap) =>
        if C.quiet g && hasBody C g then
         match sCode rec f false c2 (s1.put o.dst B7 s1.h) sc2 with
         | some ((.normal, s), sc3, ob3) | some ((.ret, s), sc3, ob3) => match Cw C fd s with
          | some a => some (.val a s.h, sc3, ob1 ++ ob2 ++ ob3)
          | none => none
         | _ => none
        else none
       | _ => none
      | none => none
     | _ => none
   | none => none
  | none => none
 | .yld _ _ _ _, _ => none
def AY : Nat → RecS
 | 0 => fun _ _ => none
 | n + 1 => BZ C O (AY n)
variable {C : Ctx} {O : Task → Res → Prop}
def AI (l : List Prop) : Prop := ∀ p ∈ l, p
theorem AI.left {a b : List Prop} (h : AI (a ++ b)) : AI a := fun p hp => h p (by simp [hp])
theorem AI.right {a b : List Prop} (h : AI (a ++ b)) : AI b := fun p hp => h p (by simp [hp])
def RecOK (C : Ctx) (O : Task → Res → Prop) (rec : RecS) : Prop := ∀ t sc r sc' ob, rec t sc = some (r, sc', ob) → AI ob → Ev C O t r
theorem Bu {rec : RecS} (hrec : RecOK C O rec) {fn : FuncId} {rd : Bool} {c : Code} {s s' : St} {x : X} {sc sc' : Ah} {ob : List Prop} (h : sCode rec fn rd c s sc = some ((x, s'), sc', ob)) (hp : AI ob) :
  Ev C O (.code fn rd c s) (.code x s') := by
 unfold sCode at h
 split at h
 ·rename_i e; simp only [Option.some.injEq, Prod.mk.injEq] at h; obtain ⟨⟨rfl, rfl⟩, rfl, rfl⟩ := h; exact hrec _ _ _ _ _ e hp
 ·cases h
theorem sOps_ev {rec : RecS} (hrec : RecOK C O rec) {fn : FuncId} {ops : Array Oper} {l : List Nat} {s s' : St} {sc sc' : Ah} {ob : List Prop} (h : sOps rec fn ops l s sc = some (s', sc', ob)) (hp : AI ob) :
  Ev C O (.ops fn ops l s) (.ops s') := by
 unfold sOps at h
 split at h
 ·rename_i e; simp only [Option.some.injEq, Prod.mk.injEq] at h; obtain ⟨rfl, rfl, rfl⟩ := h; exact hrec _ _ _ _ _ e hp
 ·cases h
theorem sDraws_ev {rec : RecS} (hrec : RecOK C O rec) {fn : FuncId} {ops : Array Oper} {l : List Nat} {s s' : St} {sc sc' : Ah} {ob : List Prop} (h : sDraws rec fn ops l s sc = some (s', sc', ob)) (hp : AI ob) :
  Ev C O (.draws fn ops l s) (.ops s') := by
 unfold sDraws at h
 split at h
 ·rename_i e; simp only [Option.some.injEq, Prod.mk.injEq] at h; obtain ⟨rfl, rfl, rfl⟩ := h; exact hrec _ _ _ _ _ e hp
 ·cases h
theorem sVal_ev {rec : RecS} (hrec : RecOK C O rec) {t : Task} {a : AV} {h' : H} {sc sc' : Ah} {ob : List Prop} (h : sVal rec t sc = some ((a, h'), sc', ob)) (hp : AI ob) : Ev C O t (.val a h') := by
 unfold sVal at h
 split at h
 ·rename_i e; simp only [Option.some.injEq, Prod.mk.injEq] at h; obtain ⟨⟨rfl, rfl⟩, rfl, rfl⟩ := h; exact hrec _ _ _ _ _ e hp
 ·cases h
theorem symStep_ev {dr : Bool} {fn : FuncId} {ops : Array Oper} {i : Nat} {s s1 : St} {sc sc' : Ah} {ob : List Prop} (h : symStep C dr fn ops i s sc = some (s1, sc', ob)) (hp : AI ob) :
  stepF C fn ops i s = some s1 ∧ (dr = true → stepD C fn ops i s = some s1) := by
 have key : stepF C fn ops i s = some s1 ∧ (dr = true → ((ops[i]?).map fun o => !AH ops s.σ o || byVal C fn ops s.σ o).getD true = true) := by
  unfold symStep at h
  unfold stepF
  cases ho : ops[i]? with
  | none =>
   simp only [ho, Option.some.injEq, Prod.mk.injEq] at h
   obtain ⟨rfl, _, _⟩ := h
   exact ⟨rfl, fun _ => rfl⟩
  | some o =>
   simp only [ho] at h ⊢
   split at h
   ·rename_i hk
    rw [if_pos hk]
    split at h
    ·rename_i hw
     rw [if_pos hw]
     split at h
     ·rename_i hd
      have hbv : dr = true → (Option.map (fun o => !AH ops s.σ o || byVal C fn ops s.σ o) (some o)).getD true = true := by
       intro hdr
       rw [hdr] at hd
       simp only [Bool.not_true, Bool.false_or] at hd
       simp [hd]
      split at h
      ·rename_i d sc1 hh
       split at h
       ·rename_i a h1 p hdec
        simp only [Option.some.injEq, Prod.mk.injEq] at h
        obtain ⟨rfl, rfl, rfl⟩ := h
        rw [decOp_op hdec (hp _ (by simp))]
        exact ⟨rfl, hbv⟩
       ·split at h
        ·rename_i a h1 hop
         simp only [Option.some.injEq, Prod.mk.injEq] at h
         obtain ⟨rfl, rfl, rfl⟩ := h
         rw [hop]
         exact ⟨rfl, hbv⟩
        ·cases h
      ·split at h
       ·rename_i a h1 hop
        simp only [Option.some.injEq, Prod.mk.injEq] at h
        obtain ⟨rfl, rfl, rfl⟩ := h
        rw [hop]
        exact ⟨rfl, hbv⟩
       ·cases h
     ·cases h
    ·rename_i hw
     rw [if_neg hw]
     simp only [Option.some.injEq, Prod.mk.injEq] at h
     obtain ⟨rfl, rfl, rfl⟩ := h
     exact ⟨rfl, fun _ => by simp [hw]⟩
   ·cases h
 refine ⟨key.1, fun hdr => ?_⟩
 unfold stepD
 rw [if_pos (key.2 hdr)]
 exact key.1
theorem symCall_ev {rec : RecS} (hrec : RecOK C O rec) {fn : FuncId} {ops : Array Oper} {i : Nat} {s s1 : St} {sc sc' : Ah} {ob : List Prop} (h : symCall C O rec fn ops i s sc = some (s1, sc', ob)) (hp : AI ob) :
  (∀ r s2, Ev C O (.ops fn ops r s1) (.ops s2) → Ev C O (.ops fn ops (i :: r) s) (.ops s2)) ∧
  ((∀ o, ops[i]? = some o → BigC C fn o s.h s1.h) → ∀ r s2, Ev C O (.draws fn ops r s1) (.ops s2) → Ev C O (.draws fn ops (i :: r) s) (.ops s2)) := by
 unfold symCall at h
 split at h
 ·rename_i o ho
  split at h
  ·rename_i hw
   split at h
   ·rename_i c hop
    split at h
    ·rename_i f hcal
     split at h
     ·rename_i g first cap hg
      split at h
      ·rename_i hb
       have done : ∀ a h1, Ev C O (.call g (first ++ c.args.toList.map (Az s.σ) ++ cap) s.h) (.val a h1) → (∀ r s2, Ev C O (.ops fn ops r (s.put o.dst a h1)) (.ops s2) → Ev C O (.ops fn ops (i :: r) s) (.ops s2)) ∧
         ((∀ o', ops[i]? = some o' → BigC C fn o' s.h (s.put o.dst a h1).h) → ∀ r s2, Ev C O (.draws fn ops r (s.put o.dst a h1)) (.ops s2) → Ev C O (.draws fn ops (i :: r) s) (.ops s2)) :=
        fun a h1 hv => ⟨fun r s2 h2 => .callOp fn ops i r s s2 o c f g first cap a h1 ho hw hop hcal hg (B9 hb) hv h2,
         fun hc r s2 h2 => .dcall fn ops i r s s2 o c f g first cap a h1 ho (by have := hc o ho; rwa [put_h] at this) hw hop hcal hg (B9 hb) hv h2⟩
       split at h
       ·rename_i a h1 sc1 hh
        simp only [Option.some.injEq, Prod.mk.injEq] at h
        obtain ⟨rfl, rfl, rfl⟩ := h
        exact done a h1 (hp _ (by simp))
       ·split at h
        ·rename_i a h1 sc1 ob1 hv
         simp only [Option.some.injEq, Prod.mk.injEq] at h
         obtain ⟨rfl, rfl, rfl⟩ := h
         exact done a h1 (sVal_ev hrec hv hp)
        ·cases h
      ·cases h
     ·cases h
    ·rename_i rv m hcal
     split at h
     ·rename_i g recv hg
      split at h
      ·rename_i hb
       have done : ∀ a h1, Ev C O (.call g ([recv] ++ c.args.toList.map (Az s.σ)) s.h) (.val a h1) → (∀ r s2, Ev C O (.ops fn ops r (s.put o.dst a h1)) (.ops s2) → Ev C O (.ops fn ops (i :: r) s) (.ops s2)) ∧
         ((∀ o', ops[i]? = some o' → BigC C fn o' s.h (s.put o.dst a h1).h) → ∀ r s2, Ev C O (.draws fn ops r (s.put o.dst a h1)) (.ops s2) → Ev C O (.draws fn ops (i :: r) s) (.ops s2)) :=
        fun a h1 hv => ⟨fun r s2 h2 => .invOp fn ops i r s s2 o c rv m g recv a h1 ho hw hop hcal hg (B9 hb) hv h2,
         fun hc r s2 h2 => .dinv fn ops i r s s2 o c rv m g recv a h1 ho (by have := hc o ho; rwa [put_h] at this) hw hop hcal hg (B9 hb) hv h2⟩
       split at h
       ·rename_i a h1 sc1 hh
        simp only [Option.some.injEq, Prod.mk.injEq] at h
        obtain ⟨rfl, rfl, rfl⟩ := h
        exact done a h1 (hp _ (by simp))
       ·split at h
        ·rename_i a h1 sc1 ob1 hv
         simp only [Option.some.injEq, Prod.mk.injEq] at h
         obtain ⟨rfl, rfl, rfl⟩ := h
         exact done a h1 (sVal_ev hrec hv hp)
        ·cases h
      ·cases h
     ·cases h
    ·cases h
   ·cases h
  ·cases h
 ·cases h
theorem symRun_ev {rec : RecS} (hrec : RecOK C O rec) : RecOK C O (BZ C O rec) := by
 intro t sc r sc' ob h hp
 cases t with
 | code fn rd c s =>
  cases c with
  | skip => simp only [BZ, Option.some.injEq, Prod.mk.injEq] at h; obtain ⟨rfl, -, -⟩ := h; exact .skip _ _ _
  | label l => simp only [BZ, Option.some.injEq, Prod.mk.injEq] at h; obtain ⟨rfl, -, -⟩ := h; exact .label _ _ _ _
  | exit id => simp only [BZ, Option.some.injEq, Prod.mk.injEq] at h; obtain ⟨rfl, -, -⟩ := h; exact .exit _ _ _ _
  | goto l => simp only [BZ, Option.some.injEq, Prod.mk.injEq] at h; obtain ⟨rfl, -, -⟩ := h; exact .goto _ _ _ _
  | ret => simp only [BZ, Option.some.injEq, Prod.mk.injEq] at h; obtain ⟨rfl, -, -⟩ := h; exact .ret _ _ _
  | region id ops draws =>
   simp only [BZ] at h
   cases draws with
   | true =>
    simp only [if_true] at h
    split at h
    ·rename_i hd
     split at h
     ·rename_i s' sc1 ob1 e
      simp only [Option.some.injEq, Prod.mk.injEq] at h; obtain ⟨rfl, rfl, rfl⟩ := h
      exact .draw _ _ _ _ _ _ hd (sDraws_ev hrec e hp)
     ·cases h
    ·cases h
   | false =>
    simp only [Bool.false_eq_true, if_false] at h
    split at h
    ·rename_i s' sc1 ob1 e
     simp only [Option.some.injEq, Prod.mk.injEq] at h; obtain ⟨rfl, rfl, rfl⟩ := h
     exact .region _ _ _ _ _ _ (sOps_ev hrec e hp)
    ·cases h
  | seq a b =>
   simp only [BZ] at h
   split at h
   ·rename_i s1 sc1 ob1 e1
    split at h
    ·rename_i x s2 sc2 ob2 e2
     simp only [Option.some.injEq, Prod.mk.injEq] at h; obtain ⟨rfl, rfl, rfl⟩ := h
     exact .seq _ _ _ _ _ _ _ _ (Bu hrec e1 hp.left) (Bu hrec e2 hp.right)
    ·cases h
   ·rename_i x s1 sc1 ob1 hx e1
    simp only [Option.some.injEq, Prod.mk.injEq] at h; obtain ⟨rfl, rfl, rfl⟩ := h
    exact .seqX _ _ _ _ _ _ _ (Bu hrec e1 hp) (fun he => by subst he; exact hx rfl)
   ·cases h
  | cond c a b =>
   simp only [BZ] at h
   split at h
   ·rename_i t e
    split at h
    ·rename_i x s1 sc1 ob1 e1
     simp only [Option.some.injEq, Prod.mk.injEq] at h; obtain ⟨rfl, rfl, rfl⟩ := h
     exact .cond _ _ _ _ _ _ _ _ t e (Bu hrec e1 hp)
    ·cases h
   ·cases h
  | block id a =>
   simp only [BZ] at h
   split at h
   ·rename_i x s1 sc1 ob1 e1
    simp only [Option.some.injEq, Prod.mk.injEq] at h; obtain ⟨rfl, rfl, rfl⟩ := h
    exact .block _ _ _ _ _ _ _ (Bu hrec e1 hp)
   ·cases h
  | loop a =>
   simp only [BZ] at h
   split at h
   ·rename_i keep x s1 sc1 hh
    simp only [Option.some.injEq, Prod.mk.injEq] at h; obtain ⟨rfl, rfl, rfl⟩ := h
    exact .forget _ _ _ _ _ _ _ (mask_forgets keep s) (hp _ (by simp))
   ·split at h
    ·rename_i s1 sc1 ob1 e1
     split at h
     ·rename_i L keep sc1' hd
      split at h
      ·rename_i x s2 sc2 ob2 e2
       simp only [Option.some.injEq, Prod.mk.injEq] at h; obtain ⟨rfl, rfl, rfl⟩ := h
       exact .loop _ _ _ _ _ _ _ (.dropOut _ _ _ _ _ _ L (hp _ (by simp)) (hp _ (by simp)) (hp _ (by simp)) (.forgetOut _ _ _ _ _ _ _ (mask_forgets keep s1) (Bu hrec e1 hp.left.left))) (Bu hrec e2 hp.right)
      ·cases h
     ·split at h
      ·rename_i x s2 sc2 ob2 e2
       simp only [Option.some.injEq, Prod.mk.injEq] at h; obtain ⟨rfl, rfl, rfl⟩ := h
       exact .loop _ _ _ _ _ _ _ (Bu hrec e1 hp.left) (Bu hrec e2 hp.right)
      ·cases h
    ·rename_i x s1 sc1 ob1 hx e1
     simp only [Option.some.injEq, Prod.mk.injEq] at h; obtain ⟨rfl, rfl, rfl⟩ := h
     exact .loopX _ _ _ _ _ _ (Bu hrec e1 hp) (fun he => by subst he; exact hx rfl)
    ·cases h
  | _ => simp [BZ] at h
 | ops fn ops l s =>
  cases l with
  | nil => simp only [BZ, Option.some.injEq, Prod.mk.injEq] at h; obtain ⟨rfl, -, -⟩ := h; exact .nil _ _ _
  | cons i r =>
   simp only [BZ] at h
   split at h
   ·rename_i s1 sc1 ob1 e1
    split at h
    ·rename_i s2 sc2 ob2 e2
     simp only [Option.some.injEq, Prod.mk.injEq] at h; obtain ⟨rfl, rfl, rfl⟩ := h
     split at e1
     ·rename_i y e3
      simp only [Option.some.injEq] at e1; subst e1
      exact .step _ _ _ _ _ _ _ (symStep_ev e3 hp.left).1 (sOps_ev hrec e2 hp.right)
     ·exact (symCall_ev hrec e1 hp.left).1 _ _ (sOps_ev hrec e2 hp.right)
    ·cases h
   ·cases h
 | draws fn ops l s =>
  cases l with
  | nil => simp only [BZ, Option.some.injEq, Prod.mk.injEq] at h; obtain ⟨rfl, -, -⟩ := h; exact .dnil _ _ _
  | cons i r =>
   simp only [BZ] at h
   split at h
   ·rename_i s1 sc1 ob1 e1
    split at h
    ·rename_i s2 sc2 ob2 e2
     simp only [Option.some.injEq, Prod.mk.injEq] at h; obtain ⟨rfl, rfl, rfl⟩ := h
     split at e1
     ·rename_i y e3
      simp only [Option.some.injEq] at e1; subst e1
      exact .dstep _ _ _ _ _ _ _ ((symStep_ev e3 hp.left).2 rfl) (sDraws_ev hrec e2 hp.right)
     ·split at e1
      ·rename_i hc
       exact (symCall_ev hrec e1 hp.left).2 (fun o ho => .inl (by simpa [ho] using hc)) _ _ (sDraws_ev hrec e2 hp.right)
      ·split at e1
       ·rename_i hc
        unfold addKept at e1
        split at e1
        ·rename_i s1' sc1' ob1' e3
         simp only [Option.some.injEq, Prod.mk.injEq] at e1
         obtain ⟨rfl, rfl, rfl⟩ := e1
         exact (symCall_ev hrec e3 hp.left.left).2 (fun o ho => .inr ⟨by simpa [ho] using hc, hp.left _ (by simp)⟩) _ _ (sDraws_ev hrec e2 hp.right)
        ·cases e1
       ·cases e1
    ·cases h
   ·cases h
 | call f args h0 =>
  simp only [BZ] at h
  split at h
  ·rename_i fd hf
   split at h
   ·rename_i c hb
    split at h
    ·split at h
     ·rename_i s sc1 ob1 e
      split at h
      ·rename_i a ha
       simp only [Option.some.injEq, Prod.mk.injEq] at h; obtain ⟨rfl, rfl, rfl⟩ := h
       exact .call _ _ _ fd c _ s a hf hb (Bu hrec e hp) (.inl rfl) ha
      ·cases h
     ·rename_i s sc1 ob1 e
      split at h
      ·rename_i a ha
       simp only [Option.some.injEq, Prod.mk.injEq] at h; obtain ⟨rfl, rfl, rfl⟩ := h
       exact .call _ _ _ fd c _ s a hf hb (Bu hrec e hp) (.inr rfl) ha
      ·cases h
     ·cases h
    ·rename_i c0 id ops o cal fop c2 hs
     obtain ⟨rfl, hz, ho, hgd, hop, hcal⟩ := splitD_eq hs
     split at h
     ·rename_i s0 sc1 ob1 e0
      split at h
      ·rename_i s1 sc2 ob2 e1
       split at h
       ·rename_i g first cap hg
        split at h
        ·rename_i hq
         simp only [Bool.and_eq_true] at hq
         split at h
         ·rename_i s sc3 ob3 e
          split at h
          ·rename_i a ha
           simp only [Option.some.injEq, Prod.mk.injEq] at h; obtain ⟨rfl, rfl, rfl⟩ := h
           exact .callD _ _ _ fd c0 c2 id ops _ s0 s1 s a o cal fop g first cap hf hb (Bu hrec e0 hp.left.left) (sOps_ev hrec e1 hp.left.right) hz ho hgd hop hcal hg hq.1 (B9 hq.2) (Bu hrec e hp.right) (.inl rfl) ha
          ·cases h
         ·rename_i s sc3 ob3 e
          split at h
          ·rename_i a ha
           simp only [Option.some.injEq, Prod.mk.injEq] at h; obtain ⟨rfl, rfl, rfl⟩ := h
           exact .callD _ _ _ fd c0 c2 id ops _ s0 s1 s a o cal fop g first cap hf hb (Bu hrec e0 hp.left.left) (sOps_ev hrec e1 hp.left.right) hz ho hgd hop hcal hg hq.1 (B9 hq.2) (Bu hrec e hp.right) (.inr rfl) ha
          ·cases h
         ·cases h
        ·cases h
       ·cases h
      ·cases h
     ·cases h
   ·cases h
  ·cases h
 | yld ys yg args h0 => simp [BZ] at h
theorem Aa : ∀ (n : Nat), RecOK C O (AY C O n)
 | 0 => fun t sc r sc' ob h => by simp [AY] at h
 | n + 1 => symRun_ev (Aa n)
def symM (C : Ctx) (O : Task → Res → Prop) (n : Nat) (fn : FuncId) (rd : Bool) (c : Code) (s : St) (sc : Ah) (keep : List Nat) : SM (X × St) :=
 match AY C O n (.code fn rd c s) sc with
 | some (.code x s1, sc', ob) => some ((x, s1.mask keep), sc', ob)
 | _ => none
theorem Ac {n : Nat} {fn : FuncId} {rd : Bool} {c : Code} {s s1 : St} {x : X} {sc sc' : Ah} {keep : List Nat} {ob : List Prop} (h : symM C O n fn rd c s sc keep = some ((x, s1), sc', ob)) (hp : AI ob) :
  Ev C O (.code fn rd c s) (.code x s1) := by
 unfold symM at h
 split at h
 ·rename_i x1 s2 sc1 ob1 e
  simp only [Option.some.injEq, Prod.mk.injEq] at h
  obtain ⟨⟨rfl, rfl⟩, rfl, rfl⟩ := h
  exact .forgetOut _ _ _ _ _ _ _ (mask_forgets keep s2) (Aa n _ _ _ _ _ e hp)
 ·cases h
def symD (C : Ctx) (O : Task → Res → Prop) (n : Nat) (fn : FuncId) (rd : Bool) (c : Code) (s : St) (sc : Ah) (keep L : List Nat) : SM (X × St) :=
 match symM C O n fn rd c s sc keep with
 | some ((x, s1), sc', ob) => some ((x, { σ := s1.σ, h := s1.h.drop L }), sc', ob ++ [hNone L s.h = true, hFree L s1.h = true, AT L s1.σ = true])
 | none => none
theorem B4 {n : Nat} {fn : FuncId} {rd : Bool} {c : Code} {s s1 : St} {x : X} {sc sc' : Ah} {keep L : List Nat} {ob : List Prop} (h : symD C O n fn rd c s sc keep L = some ((x, s1), sc', ob)) (hp : AI ob) :
  Ev C O (.code fn rd c s) (.code x s1) := by
 unfold symD at h
 split at h
 ·rename_i x1 s2 sc1 ob1 e
  simp only [Option.some.injEq, Prod.mk.injEq] at h
  obtain ⟨⟨rfl, rfl⟩, rfl, rfl⟩ := h
  exact .dropOut _ _ _ _ _ _ L (hp _ (by simp)) (hp _ (by simp)) (hp _ (by simp)) (Ac e hp.left)
 ·cases h
def Cs (C : Ctx) (O : Task → Res → Prop) (n : Nat) (g : FuncId) (ps : List PV) (sc : Ah) : SM (List PV) :=
 match AY C O n (.call g (ps.map ofPV) {}) sc with
 | some (.val a h1, sc', ob) => match resA h1 a with
  | some (rs, _) => some (rs, sc', ob)
  | none => none
 | _ => none
theorem A4 {n : Nat} {g : FuncId} {ps rs : List PV} {sc sc' : Ah} {ob : List Prop} (h : Cs C O n g ps sc = some (rs, sc', ob)) (hp : AI ob) :
  ∃ a h1 h2, Ev C O (.call g (ps.map ofPV) {}) (.val a h1) ∧ resA h1 a = some (rs, h2) := by
 unfold Cs at h
 split at h
 ·rename_i a h1 sc1 ob1 e
  split at h
  ·rename_i rs1 h2 er
   simp only [Option.some.injEq, Prod.mk.injEq] at h
   obtain ⟨rfl, rfl, rfl⟩ := h
   exact ⟨a, h1, h2, Aa n _ _ _ _ _ e hp, er⟩
  ·cases h
 ·cases h
def findLoop : Code → Nat → Nat ⊕ Code
 | .loop a, 0 => .inr (.loop a)
 | .loop a, k + 1 => findLoop a k
 | .seq a b, k => match findLoop a k with
  | .inl k' => findLoop b k'
  | r => r
 | .cond _ a b, k => match findLoop a k with
  | .inl k' => findLoop b k'
  | r => r
 | .block _ a, k => findLoop a k
 | .rangeFunc _ _ a b, k => match findLoop a k with
  | .inl k' => findLoop b k'
  | r => r
 | _, k => .inl k
def BE (P : Program) (f : FuncId) (k : Nat) : Code := match P.funcs[f]? with
 | some fd => match fd.body with
  | some c => match findLoop c k with
   | .inr l => l
   | .inl _ => .skip
  | none => .skip
 | none => .skip
theorem A2 : AI [] := fun p hp => by cases hp
theorem A0 {p : Prop} {l : List Prop} (h : p) (hl : AI l) : AI (p :: l) := fun q hq => by
 rcases List.mem_cons.1 hq with rfl | hq
 ·exact h
 ·exact hl q hq
end Go.Ev
namespace Go.Ev
open Go Go.RowKit
def Cj (C : Ctx) (n : Nat) (g : FuncId) (ps : List PV) : Option (List PV) :=
 match run C n (.call g (ps.map ofPV) {}) with
 | some (.val a h1) => match resA h1 a with
  | some (rs, _) => some rs
  | none => none
 | _ => none
theorem sat_runSpec {C : Ctx} (hP : Aw C) (hm : C.P.follows .mixedOrders = true) (n : Nat) (g : FuncId) : AJ C g (Cj C n g) :=
 sat_of_run hP hm fun ps rs hs => by
  unfold Cj at hs
  split at hs
  ·rename_i a h1 e
   split at hs
   ·rename_i rs' h2 e2
    cases hs
    exact ⟨n, a, h1, h2, e, e2⟩
   ·cases hs
  ·cases hs
def addRun (C : Ctx) (n : Nat) (L : List FuncId) : Ctx := { C with prim := fun g => if L.contains g && hasBody C g then some (Cj C n g) else C.prim g }
theorem addRun_ok {C : Ctx} (hP : Aw C) (hm : C.P.follows .mixedOrders = true) (n : Nat) (L : List FuncId) : Aw (addRun C n L) := by
 refine ⟨?_, hP.2⟩
 intro g spec h
 simp only [addRun] at h
 split at h
 ·rename_i hc
  cases h
  simp only [Bool.and_eq_true] at hc
  exact ⟨(sat_runSpec hP hm n g).ctx rfl rfl, B9 hc.2⟩
 ·obtain ⟨h1, h2⟩ := hP.1 g spec h
  exact ⟨h1.ctx rfl rfl, h2⟩
open Go Go.RowKit Go.Proofs
def vi (n : Int) : AV := .d (.v (.int .i64 n))
def vu (n : Int) : AV := .d (.v (.int .u64 n))
def vb (b : Bool) : AV := .d (.v (.bool b))
abbrev T : AV := .top
def A5 (n : Int) : PV := .one (.v (.int .i64 n))
def pu (n : Int) : PV := .one (.v (.int .u64 n))
def A3 (b : Bool) : PV := .one (.v (.bool b))
def nilPV : PV := .one (.v (.slice none 0 0))
def di (n : Int) : DV := .v (.int .i64 n)
def dnil : DV := .v (.slice none 0 0)
def du (n : Int) : DV := .v (.int .u64 n)
def db (b : Bool) : DV := .v (.bool b)
def spansG : List DV := [di 0, di 3, di 3, di 9, di 9, di 10, di 10, di 26, di 26, di 58]
def emptyG : List DV := [db false, db false, du 0, di (-1), di (-1), di (-1)]
def weightsG : List DV := [88761, 71755, 56483, 46273, 36291, 29154, 23254, 18705, 14949, 11916, 9548, 7620, 6100, 4904, 3906, 3121, 2501, 1991, 1586, 1277, 1024, 820, 655, 526, 423, 335, 272, 215, 172, 137, 110, 87, 70, 56, 45, 36, 29, 23, 18, 15].map di
def globs : Nat → Option (List DV)
 | 0 => some spansG
 | 1 => some emptyG
 | 2 => some weightsG
 | _ => none
theorem g_spans : Tryz.prog.globalNamed "turnspit/packed.spans" = some 0 := by kernel_rfl
theorem g_empty : Tryz.prog.globalNamed "turnspit/tree.empty" = some 1 := by kernel_rfl
theorem g_weights : Tryz.prog.globalNamed "turnspit/weight.weights" = some 2 := by kernel_rfl
noncomputable def C0 : Ctx := { P := Tryz.prog, glob := globs, pm := fun m => m == "turnspit/abst.item", wr := fun f _ => f == 100 }
theorem Bm : Tryz.prog.follows .mixedOrders = true := by kernel_rfl
theorem BN : Aw C0 := ⟨fun g spec h => (by cases h), fun g h => (by cases h), fun g sz h => (by cases h)⟩
theorem Ch {n : Int} (h1 : -9223372036854775808 ≤ n) (h2 : n < 9223372036854775808) : IntKind.i64.wrap n = n := by
 simp only [IntKind.wrap, IntKind.bits, IntKind.signed]
 simp
 split <;> omega
theorem B1 {n : Int} (h1 : 0 ≤ n) (h2 : n < 18446744073709551616) : IntKind.u64.wrap n = n := by
 simp only [IntKind.wrap, IntKind.bits, IntKind.signed]
 simp
 omega
theorem Ag {i : Nat} (h : i < 2 ^ 62) : IntKind.i64.wrap ((i : Int) + 1) = ((i + 1 : Nat) : Int) := by
 rw [Ch (by omega) (by omega)]; simp
def bitN (c : Int) : Nat := if 0 ≤ c ∧ c < 64 then 2 ^ c.toNat else 0
def bitHd (c n i : Int) : St := { σ := [vi c, T, T, vu n, vi i, T, T, T, T, T, T, T, T, T, T, T, T, T, T], h := {} }
def bitOut (n : Int) : St := { σ := [T, T, T, vu n, T, T, T, T, T, T, T, T, T, T, T, T, T, T, T], h := {} }
theorem bit_end (c n i : Int) : symM C0 Ab 60 41 false (BE Tryz.prog 41 0) (bitHd c n i) [(A1 41 13, .b false)] [3] = some ((.exit 0, bitOut n), [], [decide (i < c) = false]) := by kernel_rfl
theorem bit_step (c n i n' i' : Int) (x : X) (s : St) : AY C0 Ab 60 (.code 41 false (BE Tryz.prog 41 0) (bitHd c n i)) [(A1 41 13, .b true), (A1 41 17, .int n'), (A1 41 15, .int i'), (A1 41 8001, .loop [0, 3, 4] x s)] =
  some (.code x s, [], [decide (i < c) = true, IntKind.u64.wrap (n * 2) = n', IntKind.i64.wrap (i + 1) = i', Ev C0 Ab (.code 41 false (BE Tryz.prog 41 0) (bitHd c n' i')) (.code x s)]) := by kernel_rfl
theorem bit_loop : ∀ (k i : Nat), i + k < 64 → Ev C0 Ab (.code 41 false (BE Tryz.prog 41 0) (bitHd ((i + k : Nat) : Int) ((2 ^ i : Nat) : Int) (i : Int))) (.code (.exit 0) (bitOut ((2 ^ (i + k) : Nat) : Int)))
 | 0, i, h => Ac (bit_end _ _ _) (A0 (by simp) A2)
 | k + 1, i, h => by
  have ih := bit_loop k (i + 1) (by omega)
  have e : i + 1 + k = i + (k + 1) := by omega
  rw [e] at ih
  have hp : 2 ^ (i + 1) ≤ 2 ^ 63 := Nat.pow_le_pow_right (by omega) (by omega)
  refine Aa _ _ _ _ _ _ (bit_step _ _ _ ((2 ^ (i + 1) : Nat) : Int) ((i + 1 : Nat) : Int) _ _) (A0 (decide_eq_true (by omega)) (A0 ?_ (A0 (Ag (by omega)) (A0 ih A2))))
  have e2 : ((2 ^ i : Nat) : Int) * 2 = ((2 ^ (i + 1) : Nat) : Int) := by rw [Nat.pow_succ]; simp
  rw [e2]
  generalize 2 ^ (i + 1) = p at *
  exact B1 (by omega) (by omega)
theorem bit_neg (c : Int) : AY C0 Ab 60 (.call 41 [vi c] {}) [(A1 41 6, .b true)] = some (.val (vu 0) {}, [], [decide (c < 0) = true]) := by kernel_rfl
theorem bit_big (c : Int) : AY C0 Ab 60 (.call 41 [vi c] {}) [(A1 41 6, .b false), (A1 41 9, .b true)] = some (.val (vu 0) {}, [], [decide (c < 0) = false, decide (63 < c) = true]) := by kernel_rfl
theorem bit_in (c n : Int) : AY C0 Ab 60 (.call 41 [vi c] {}) [(A1 41 6, .b false), (A1 41 9, .b false), (A1 41 8001, .loop [0, 3, 4] (.exit 0) (bitOut n))] =
  some (.val (vu n) {}, [], [decide (c < 0) = false, decide (63 < c) = false, Ev C0 Ab (.code 41 false (BE Tryz.prog 41 0) (bitHd c 1 0)) (.code (.exit 0) (bitOut n))]) := by kernel_rfl
theorem bit_ev (c : Int) : Ev C0 Ab (.call 41 [vi c] {}) (.val (vu (bitN c)) {}) := by
 unfold bitN
 split
 ·rename_i h
  have hl := bit_loop c.toNat 0 (by omega)
  simp only [Nat.zero_add] at hl
  have e : ((c.toNat : Nat) : Int) = c := by omega
  rw [e] at hl
  exact Aa _ _ _ _ _ _ (bit_in c _) (A0 (decide_eq_false (by omega)) (A0 (decide_eq_false (by omega)) (A0 (by simpa using hl) A2)))
 ·rename_i h
  by_cases h0 : c < 0
  ·exact Aa _ _ _ _ _ _ (bit_neg c) (A0 (decide_eq_true h0) A2)
  ·exact Aa _ _ _ _ _ _ (bit_big c) (A0 (decide_eq_false h0) (A0 (decide_eq_true (by omega)) A2))
def bitSpec : List PV → Option (List PV)
 | [.one (.v (.int .i64 c))] => some [pu (bitN c)]
 | _ => none
theorem bit_sat : AJ C0 41 bitSpec := by
 refine Af (O := Ab) BN (fun _ _ h => h.elim) Bm fun ps rs hs => ?_
 unfold bitSpec at hs
 split at hs
 ·rename_i c
  cases hs
  exact ⟨_, {}, {}, bit_ev c, rfl⟩
 ·cases hs
abbrev Spec := List PV → Option (List PV)
def Ad (C : Ctx) (g : FuncId) (s : Spec) : Ctx := { C with prim := fun f => if f == g then some s else C.prim f }
theorem A7 {C : Ctx} (hP : Aw C) {g : FuncId} {s : Spec} (hs : AJ C g s) (hb : hasBody C g = true) : Aw (Ad C g s) := by
 refine ⟨?_, hP.2⟩
 intro f spec h
 simp only [Ad] at h
 split at h
 ·rename_i hc
  cases h
  obtain rfl : f = g := by simpa using hc
  exact ⟨hs.ctx rfl rfl, B9 hb⟩
 ·obtain ⟨h1, h2⟩ := hP.1 f spec h
  exact ⟨h1.ctx rfl rfl, h2⟩
noncomputable def S1 : Ctx := Ad C0 41 bitSpec
theorem hS1 : Aw S1 := A7 BN bit_sat (by kernel_rfl)
theorem still_quo {P : Program} {t : TypeId} {a b : Int} (hb : b ≠ 0) : Ar P (binOp .quo t (.int .u64 a) (.int .u64 b)) = some (.int .u64 (IntKind.u64.wrap (a.tdiv b))) := by
 simp [binOp, Op.intDiv, hb]
 rfl
def hasI (m c : Int) : Bool := (((bitN c : Nat) : Int) != 0) && ((IntKind.u64.wrap (m.tdiv (bitN c))).tmod 2 == 1)
theorem has_no (m c b : Int) : AY S1 Ab 60 (.call 19 [vu m, vi c] {}) [(A1 19 6, .prim [pu b]), (A1 19 7, .b false)] = some (.val (vb false) {}, [], [bitSpec [A5 c] = some [pu b], (b != 0) = false]) := by kernel_rfl
theorem has_in (m c b q r : Int) (t : Bool) : AY S1 Ab 60 (.call 19 [vu m, vi c] {}) [(A1 19 6, .prim [pu b]), (A1 19 7, .b true), (A1 19 11, .prim [pu b]), (A1 19 12, .ari .u64 q), (A1 19 13, .ari .u64 r), (A1 19 14, .b t)] =
  some (.val (vb t) {}, [], [bitSpec [A5 c] = some [pu b], (b != 0) = true, bitSpec [A5 c] = some [pu b], Ar Tryz.prog (binOp .quo 39 (.int .u64 m) (.int .u64 b)) = some (.int .u64 q),
   Ar Tryz.prog (binOp .rem 39 (.int .u64 q) (.int .u64 2)) = some (.int .u64 r), (r == 1) = t]) := by kernel_rfl
theorem has_ev (m c : Int) : Ev S1 Ab (.call 19 [vu m, vi c] {}) (.val (vb (hasI m c)) {}) := by
 unfold hasI
 cases h : (((bitN c : Nat) : Int) != 0) with
 | false => exact Aa _ _ _ _ _ _ (has_no m c _) (A0 rfl (A0 h A2))
 | true =>
  refine Aa _ _ _ _ _ _ (has_in m c _ _ _ _) (A0 rfl (A0 h (A0 rfl (A0 (still_quo (by simpa using h)) (A0 rfl (A0 ?_ A2))))))
  simp
def hasSpec : Spec
 | [.one (.v (.int .u64 m)), .one (.v (.int .i64 c))] => some [A3 (hasI m c)]
 | _ => none
theorem has_sat : AJ C0 19 hasSpec := by
 refine AJ.ctx (C := S1) rfl rfl (Af (O := Ab) hS1 (fun _ _ h => h.elim) Bm fun ps rs hs => ?_)
 unfold hasSpec at hs
 split at hs
 ·rename_i m c
  cases hs
  exact ⟨_, {}, {}, has_ev m c, rfl⟩
 ·cases hs
noncomputable def S2 : Ctx := Ad S1 19 hasSpec
theorem hS2 : Aw S2 := A7 hS1 (has_sat.ctx rfl rfl) (by kernel_rfl)
theorem still_program {P : Program} : Ar P program = some P := rfl
theorem BJ {P : Program} {α : Type} (a : α) : Ar P (pure a : Sem α) = some a := rfl
theorem still_und {P : Program} {t : TypeId} {td : TypeDesc} (h : P.underlying t = some td) : Ar P (underlying t) = some td := by
 simp only [underlying, Bf, still_program, h, BJ]
def eqFields (P : Program) (d : Nat) (xs ys : Array Value) : List Field → Option Bool
 | [] => some true
 | f :: r => if f.name = "_" then eqFields P d xs ys r else
  match Ar P (part f.type xs f.offset), Ar P (part f.type ys f.offset) with
  | some x, some y => match Ar P (Op.equalIn d f.type x y) with
   | some true => eqFields P d xs ys r
   | some false => some false
   | none => none
  | _, _ => none
theorem eq_struct {P : Program} {t : TypeId} {fs : Array Field} (h : P.underlying t = some (.struct fs)) (hs : P.stoodInHeld t = false) (d : Nat) (xs ys : Array Value) :
  Ar P (Op.equalIn (d + 1) t (.agg xs) (.agg ys)) = eqFields P d xs ys fs.toList := by
 rw [Op.equalIn]
 simp only [Bf, still_und h, still_program, hs, Bool.false_eq_true, if_false, BJ]
 rw [← Array.forIn_toList]
 generalize fs.toList = l
 induction l with
 | nil => simp [BJ, eqFields]
 | cons f r ih =>
  simp only [List.forIn_cons, eqFields]
  by_cases hn : f.name = "_"
  ·simp only [hn, ne_eq, not_true_eq_false, if_false, if_true, Bf, BJ]
   exact ih
  ·simp only [hn, ne_eq, not_false_eq_true, if_false, if_true, Bf]
   cases h1 : Ar P (part f.type xs f.offset) with
   | none => rfl
   | some x =>
    cases h2 : Ar P (part f.type ys f.offset) with
    | none => rfl
    | some y =>
     simp only
     cases h3 : Ar P (Op.equalIn d f.type x y) with
     | none => rfl
     | some b =>
      cases b with
      | false => simp [BJ]
      | true =>
       simp only [Bool.not_true, Bool.false_eq_true, if_false, BJ, Bf]
       exact ih
def eqParts (P : Program) (d : Nat) (xs ys : Array Value) : List (TypeId × Nat) → Option Bool
 | [] => some true
 | (t, o) :: r =>
  match Ar P (part t xs o), Ar P (part t ys o) with
  | some x, some y => match Ar P (Op.equalIn d t x y) with
   | some true => eqParts P d xs ys r
   | some false => some false
   | none => none
  | _, _ => none
def fieldsOf (P : Program) (t : TypeId) : List (TypeId × Nat) := match P.underlying t with
 | some (.struct fs) => if fs.toList.all (fun f => !(f.name == "_")) && !P.stoodInHeld t then fs.toList.map fun f => (f.type, f.offset) else []
 | _ => []
theorem eqFields_parts {P : Program} {d : Nat} {xs ys : Array Value} : ∀ (l : List Field), (l.all fun f => !(f.name == "_")) = true → eqFields P d xs ys l = eqParts P d xs ys (l.map fun f => (f.type, f.offset))
 | [], _ => rfl
 | f :: r, h => by
  simp only [List.all_cons, Bool.and_eq_true, Bool.not_eq_true', beq_eq_false_iff_ne, ne_eq] at h
  simp only [eqFields, h.1, if_false, List.map_cons, eqParts, eqFields_parts r h.2]
theorem eq_struct' {P : Program} {t : TypeId} (h : (fieldsOf P t).isEmpty = false) (d : Nat) (xs ys : Array Value) :
  Ar P (Op.equalIn (d + 1) t (.agg xs) (.agg ys)) = eqParts P d xs ys (fieldsOf P t) := by
 unfold fieldsOf at h ⊢
 split at h
 ·rename_i fs e
  split at h
  ·rename_i hc
   simp only [Bool.and_eq_true, Bool.not_eq_true'] at hc
   rw [if_pos (by simpa using hc), eq_struct e hc.2, eqFields_parts _ hc.1]
  ·cases h
 ·cases h
theorem eq_intK {P : Program} {t : TypeId} {k : IntKind} (h : P.underlying t = some (.int k)) (d : Nat) (a b : Int) : Ar P (Op.equalIn (d + 1) t (.int k a) (.int k b)) = some (a == b) := by
 simp only [Op.equalIn, Bf, still_und h]
 simp [BJ]
theorem eq_boolK {P : Program} {t : TypeId} (h : P.underlying t = some .bool) (d : Nat) (a b : Bool) : Ar P (Op.equalIn (d + 1) t (.bool a) (.bool b)) = some (a == b) := by
 simp only [Op.equalIn, Bf, still_und h]
 simp [BJ]
theorem und3 : Tryz.prog.underlying 3 = some (.int .i64) := by kernel_rfl
theorem und39 : Tryz.prog.underlying 39 = some (.int .u64) := by kernel_rfl
theorem und4 : Tryz.prog.underlying 4 = some .bool := by kernel_rfl
end Go.Ev
namespace Go.Ev
open Go Go.RowKit
def conj : List Prop → Prop
 | [] => True
 | p :: l => p ∧ conj l
theorem conj_all : ∀ {l : List Prop}, conj l → AI l
 | [], _ => A2
 | _ :: _, h => A0 h.1 (conj_all h.2)
def need {α : Type} (m : Option (α × Ah × List Prop)) (r : α) : Prop := match m with
 | some (x, [], l) => conj l ∧ x = r
 | _ => False
theorem need_out {α : Type} {m : Option (α × Ah × List Prop)} {r : α} (h : need m r) : ∃ l, m = some (r, [], l) ∧ AI l := by
 unfold need at h
 split at h
 ·exact ⟨_, by rw [h.2], conj_all h.1⟩
 ·exact h.elim
variable {C : Ctx} {O : Task → Res → Prop}
theorem sgo {n : Nat} {t : Task} {r : Res} (sc : Ah) {T : Prop} (h : T) (e : (T ∧ r = r) = need (AY C O n t sc) r) : Ev C O t r := by
 obtain ⟨l, h1, h2⟩ := need_out (e.mp ⟨h, rfl⟩)
 exact Aa _ _ _ _ _ _ h1 h2
theorem lgo (n : Nat) {fn : FuncId} {rd : Bool} {c : Code} {s st : St} {X : X} (sc : Ah) (keep : List Nat) {T : Prop} (h : T)
  (e : (T ∧ Res.code X st = Res.code X st) = need (AY C O n (.code fn rd c s) (sc ++ [(A1 fn 8001, .loop keep X st)])) (.code X st)) : Ev C O (.code fn rd c s) (.code X st) := sgo _ h e
theorem mgo (n : Nat) {fn : FuncId} {rd : Bool} {c : Code} {s st : St} {X : X} (sc : Ah) (keep : List Nat) {T : Prop} (h : T)
  (e : (T ∧ (X, st) = (X, st)) = need (symM C O n fn rd c s sc keep) (X, st)) : Ev C O (.code fn rd c s) (.code X st) := by
 obtain ⟨l, h1, h2⟩ := need_out (e.mp ⟨h, rfl⟩)
 exact Ac h1 h2
theorem dgo (n : Nat) {fn : FuncId} {rd : Bool} {c : Code} {s st : St} {X : X} (sc : Ah) (keep L : List Nat) {T : Prop} (h : T)
  (e : (T ∧ (X, st) = (X, st)) = need (symD C O n fn rd c s sc keep L) (X, st)) : Ev C O (.code fn rd c s) (.code X st) := by
 obtain ⟨l, h1, h2⟩ := need_out (e.mp ⟨h, rfl⟩)
 exact B4 h1 h2
theorem vgo (n : Nat) {g : FuncId} {ps rs : List PV} (sc : Ah) {T : Prop} (h : T) (e : (T ∧ rs = rs) = need (Cs C O n g ps sc) rs) :
  ∃ a h1 h2, Ev C O (.call g (ps.map ofPV) {}) (.val a h1) ∧ resA h1 a = some (rs, h2) := by
 obtain ⟨l, h1, h2⟩ := need_out (e.mp ⟨h, rfl⟩)
 exact A4 h1 h2
abbrev sl (fn : FuncId) (l : Ah) : Ah := l.map fun x => (A1 fn x.1, x.2)
theorem A {p q : Prop} (a : p) (b : q) : p ∧ q := ⟨a, b⟩
abbrev Z : True := trivial
theorem lookT_putT (s g : Nat) : ∀ t, BV s (putT s g t) = g
 | [] => by simp [putT, BV]
 | (a, b) :: r => by
  unfold putT
  split
  ·simp [BV]
  ·split
   ·simp [BV]
   ·rename_i h1 h2
    simp only [BV, h1]
    simpa using lookT_putT s g r
inductive OutOK (sz : Nat) : A8 → AV → AC → Prop
 | nil (t : AC) : OutOK sz [] (.d (.v (.slice none 0 0))) t
 | st (rows : A8) (s g : Nat) (t : AC) (h : BV s t = g) : OutOK sz rows (.st sz rows s g) t
theorem OutOK.app {sz B : Nat} {rows : A8} {t : AC} {s g : Nat} (r : List DV) : OutOK sz (rows ++ [r]) (.st sz (rows ++ [r]) B (BV B (putT s (g + 1) t) + 1)) (putT B (BV B (putT s (g + 1) t) + 1) (putT s (g + 1) t)) := .st _ _ _ _ (lookT_putT _ _ _)
theorem OutOK.app0 {sz B : Nat} {t : AC} (r : List DV) : OutOK sz ([] ++ [r]) (.st sz ([] ++ [r]) B (BV B t + 1)) (putT B (BV B t + 1) t) := .st _ _ _ _ (lookT_putT _ _ _)
end Go.Ev
namespace Go.Ev
open Go Go.RowKit Go.Proofs
noncomputable abbrev Lp (f k : Nat) (s : St) : Task := .code f false (BE Tryz.prog f k) s
noncomputable abbrev sM (C : Ctx) (f k : Nat) (s : St) (sc : Ah) (l : List Nat) := symM C Ab 60 f false (BE Tryz.prog f k) s sc l
noncomputable abbrev sV (C : Ctx) (g : FuncId) (ps : List PV) (sc : Ah) := Cs C Ab 60 g ps sc
structure Sta where
 kind : Nat
 cpu : Nat
 bit : Bool
 seq : Nat
 gen : Nat
def At (w : Nat) : Sta := ⟨w % 8, w / 8 % 64, decide (w / 512 % 2 = 1), w / 1024 % 65536, w / 67108864 % 4294967296⟩
def Ck (w : Nat) : Bool := decide (w / 2 ^ 58 = 0) && (!(At w).bit || decide ((At w).kind = 7))
def Sta.cs (x : Sta) : List DV := [di x.kind, di x.cpu, db x.bit, di x.seq, di x.gen]
def staZ : List DV := [di 0, di 0, db false, di 0, di 0]
def unpackR (w : Nat) : List PV := if Ck w then [.agg (At w).cs, A5 0] else [.agg staZ, A5 1]
def AN : Spec
 | [.one (.v (.int .u64 w))] => if 0 ≤ w ∧ w < 2 ^ 64 then some (unpackR w.toNat) else none
 | _ => none
def bitsI (w a m : Int) : Int := IntKind.wrap .i64 (IntKind.wrap .u64 (((BitVec.ofInt 64 (Int.fdiv w (2 ^ a.toNat)) &&& BitVec.ofInt 64 m).toNat : Nat) : Int))
theorem ofInt_nat {v : Nat} (h : v < 2 ^ 64) : (BitVec.ofInt 64 (v : Int)).toNat = v := by
 have : BitVec.ofInt 64 (v : Int) = BitVec.ofNat 64 v := by simp
 rw [this, BitVec.toNat_ofNat, Nat.mod_eq_of_lt h]
theorem bits_val {w a b : Nat} (hw : w < 2 ^ 64) (hb : b ≤ 62) : bitsI w a ((2 ^ b - 1 : Nat) : Int) = ((w / 2 ^ a % 2 ^ b : Nat) : Int) := by
 have h1 : Int.fdiv (w : Int) (2 ^ ((a : Int)).toNat) = ((w / 2 ^ a : Nat) : Int) := by
  simp only [Int.toNat_natCast]
  have : (2 : Int) ^ a = ((2 ^ a : Nat) : Int) := by simp
  rw [this]
  exact (Int.ofNat_fdiv _ _).symm
 have hlt : w / 2 ^ a < 2 ^ 64 := Nat.lt_of_le_of_lt (Nat.div_le_self _ _) hw
 have hpb : 2 ^ b ≤ 2 ^ 62 := Nat.pow_le_pow_right (by decide) hb
 have hpos : 0 < 2 ^ b := Nat.two_pow_pos b
 have h2 := ofInt_nat hlt
 have h3 : (BitVec.ofInt 64 ((2 ^ b - 1 : Nat) : Int)).toNat = 2 ^ b - 1 := ofInt_nat (by omega)
 unfold bitsI
 rw [h1, BitVec.toNat_and, h2, h3, Nat.and_two_pow_sub_one_eq_mod]
 have h4 : w / 2 ^ a % 2 ^ b < 2 ^ b := Nat.mod_lt _ hpos
 generalize w / 2 ^ a % 2 ^ b = n at h4 ⊢
 generalize 2 ^ b = q at *
 rw [B1 (by omega) (by omega), Ch (by omega) (by omega)]
noncomputable def CU : Ctx := addRun C0 500 [144, 145, 147, 146, 17, 159, 91]
theorem hPU : Aw CU := addRun_ok BN Bm 500 _
def unpOb (w k c b s g : Int) (t : Bool) : List Prop := [bitsI w 0 7 = k, bitsI w 3 63 = c, bitsI w 9 1 = b, (b == 1) = t, bitsI w 10 65535 = s, bitsI w 26 4294967295 = g]
theorem unpack_f (w k c b s g : Int) : sV CU 78 [pu w] [(A1 78 6, .int k), (A1 78 8, .int c), (A1 78 10, .int b), (A1 78 11, .b false), (A1 78 13, .int s), (A1 78 15, .int g), (A1 78 19, .b false)] =
  some ([.agg [di k, di c, db false, di s, di g], A5 0], [], unpOb w k c b s g false ++ [(Int.fdiv w (2 ^ 58) != 0) = false]) := by kernel_rfl
theorem unpack_h (w k c b s g : Int) (t : Bool) : sV CU 78 [pu w] [(A1 78 6, .int k), (A1 78 8, .int c), (A1 78 10, .int b), (A1 78 11, .b t), (A1 78 13, .int s), (A1 78 15, .int g), (A1 78 19, .b true)] =
  some ([.agg staZ, A5 1], [], unpOb w k c b s g t ++ [(Int.fdiv w (2 ^ 58) != 0) = true]) := by kernel_rfl
theorem unpack_t (w k c b s g : Int) : sV CU 78 [pu w] [(A1 78 6, .int k), (A1 78 8, .int c), (A1 78 10, .int b), (A1 78 11, .b true), (A1 78 13, .int s), (A1 78 15, .int g), (A1 78 19, .b false), (A1 78 26, .b false)] =
  some ([.agg [di k, di c, db true, di s, di g], A5 0], [], unpOb w k c b s g true ++ [(Int.fdiv w (2 ^ 58) != 0) = false, (k != 7) = false]) := by kernel_rfl
theorem unpack_x (w k c b s g : Int) : sV CU 78 [pu w] [(A1 78 6, .int k), (A1 78 8, .int c), (A1 78 10, .int b), (A1 78 11, .b true), (A1 78 13, .int s), (A1 78 15, .int g), (A1 78 19, .b false), (A1 78 26, .b true)] =
  some ([.agg staZ, A5 1], [], unpOb w k c b s g true ++ [(Int.fdiv w (2 ^ 58) != 0) = false, (k != 7) = true]) := by kernel_rfl
theorem unpOb_ok {w : Nat} (hw : w < 2 ^ 64) : AI (unpOb w (At w).kind (At w).cpu ((w / 512 % 2 : Nat) : Int) (At w).seq (At w).gen (At w).bit) := by
 have e1 : bitsI w 0 7 = ((w / 2 ^ 0 % 2 ^ 3 : Nat) : Int) := bits_val (a := 0) (b := 3) hw (by decide)
 have e2 : bitsI w 3 63 = ((w / 2 ^ 3 % 2 ^ 6 : Nat) : Int) := bits_val (a := 3) (b := 6) hw (by decide)
 have e3 : bitsI w 9 1 = ((w / 2 ^ 9 % 2 ^ 1 : Nat) : Int) := bits_val (a := 9) (b := 1) hw (by decide)
 have e4 : bitsI w 10 65535 = ((w / 2 ^ 10 % 2 ^ 16 : Nat) : Int) := bits_val (a := 10) (b := 16) hw (by decide)
 have e5 : bitsI w 26 4294967295 = ((w / 2 ^ 26 % 2 ^ 32 : Nat) : Int) := bits_val (a := 26) (b := 32) hw (by decide)
 simp only [Nat.reducePow, Nat.div_one] at e1 e2 e3 e4 e5
 refine A0 e1 (A0 e2 (A0 e3 (A0 ?_ (A0 e4 (A0 e5 A2)))))
 have h2 : w / 512 % 2 < 2 := Nat.mod_lt _ (by decide)
 simp only [At]
 rcases Nat.lt_or_ge (w / 512 % 2) 1 with h | h
 ·have : w / 512 % 2 = 0 := by omega
  rw [this]; rfl
 ·have : w / 512 % 2 = 1 := by omega
  rw [this]; rfl
theorem Co {l m : List Prop} (h : AI l) (k : AI m) : AI (l ++ m) := fun p hp => by
 rcases List.mem_append.1 hp with hp | hp
 ·exact h p hp
 ·exact k p hp
theorem fdiv58 (w : Nat) : (Int.fdiv (w : Int) (2 ^ 58) != 0) = decide (w / 2 ^ 58 ≠ 0) := by
 have h1 : Int.fdiv (w : Int) (2 ^ 58) = ((w / 2 ^ 58 : Nat) : Int) := by
  have : (2 : Int) ^ 58 = ((2 ^ 58 : Nat) : Int) := by simp
  rw [this]
  exact (Int.ofNat_fdiv _ _).symm
 rw [h1]
 generalize w / 2 ^ 58 = n
 by_cases h : n = 0
 ·subst h; rfl
 ·have : (n : Int) ≠ 0 := by omega
  simp [h]
theorem unpack_sat : AJ CU 78 AN := Af (O := Ab) hPU (fun _ _ h => h.elim) Bm fun ps rs hs => by
 unfold AN at hs
 split at hs
 ·rename_i w
  split at hs
  ·rename_i hc
   obtain ⟨n, rfl⟩ := Int.eq_ofNat_of_zero_le hc.1
   have hn : n < 2 ^ 64 := by have := hc.2; exact_mod_cast this
   simp only [Option.some.injEq, Int.toNat_natCast] at hs
   subst hs
   have hob := unpOb_ok hn
   have hk : (At n).kind = n % 8 := rfl
   unfold unpackR Ck
   by_cases h58 : n / 2 ^ 58 = 0
   ·have f58 : (Int.fdiv (n : Int) (2 ^ 58) != 0) = false := by rw [fdiv58]; simp [h58]
    cases hb : (At n).bit with
    | false =>
     rw [if_pos (by simp [h58])]
     rw [hb] at hob
     have := A4 (unpack_f n (At n).kind (At n).cpu ((n / 512 % 2 : Nat) : Int) (At n).seq (At n).gen) (Co hob (A0 f58 A2))
     simp only [Sta.cs, hb]
     exact this
    | true =>
     rw [hb] at hob
     by_cases h7 : (At n).kind = 7
     ·rw [if_pos (by simp [h58, h7])]
      have := A4 (unpack_t n (At n).kind (At n).cpu ((n / 512 % 2 : Nat) : Int) (At n).seq (At n).gen) (Co hob (A0 f58 (A0 (by rw [h7]; rfl) A2)))
      simp only [Sta.cs, hb]
      exact this
     ·rw [if_neg (by simp [h7])]
      exact A4 (unpack_x n (At n).kind (At n).cpu ((n / 512 % 2 : Nat) : Int) (At n).seq (At n).gen) (Co hob (A0 f58 (A0 (by simp; omega) A2)))
   ·have f58 : (Int.fdiv (n : Int) (2 ^ 58) != 0) = true := by rw [fdiv58]; simp [h58]
    rw [if_neg (by simp [h58])]
    exact A4 (unpack_h n (At n).kind (At n).cpu ((n / 512 % 2 : Nat) : Int) (At n).seq (At n).gen (At n).bit) (Co hob (A0 f58 A2))
  ·cases hs
 ·cases hs
def inSta (k c s g : Int) : Prop := (0 ≤ k ∧ k < 8) ∧ (0 ≤ c ∧ c < 64) ∧ (0 ≤ s ∧ s < 65536) ∧ 0 ≤ g ∧ g < 4294967296
instance (k c s g : Int) : Decidable (inSta k c s g) := by unfold inSta; infer_instance
def mayS : Spec
 | [.agg [.v (.int .i64 k), .v (.int .i64 c), .v (.bool b), .v (.int .i64 s), .v (.int .i64 g)]] => if inSta k c s g then some [A3 (!b || decide (k = 7))] else none
 | _ => none
def mayScr (l : List (Nat × Dec)) : Ah := [(A1 202 5, .b false), (A1 202 9, .b false), (A1 202 14, .b false), (A1 202 19, .b false), (A1 202 24, .b false), (A1 202 29, .b false), (A1 202 34, .b false), (A1 202 39, .b false)] ++ l
def mayOb (k c s g : Int) : List Prop := [decide (k < 0) = false, decide (k > 7) = false, decide (c < 0) = false, decide (c > 63) = false, decide (s < 0) = false, decide (s > 65535) = false, decide (g < 0) = false, decide (g > 4294967295) = false]
theorem may_f (k c s g : Int) : sV C0 202 [.agg [di k, di c, db false, di s, di g]] (mayScr []) = some ([A3 true], [], mayOb k c s g) := by kernel_rfl
theorem may_t (k c s g : Int) (t : Bool) : sV C0 202 [.agg [di k, di c, db true, di s, di g]] (mayScr [(A1 202 47, .b t)]) = some ([A3 t], [], mayOb k c s g ++ [(k == 7) = t]) := by kernel_rfl
theorem mayOb_ok {k c s g : Int} (h : inSta k c s g) : AI (mayOb k c s g) := by
 obtain ⟨⟨_, _⟩, ⟨_, _⟩, ⟨_, _⟩, _, _⟩ := h
 exact A0 (decide_eq_false (by omega)) (A0 (decide_eq_false (by omega)) (A0 (decide_eq_false (by omega)) (A0 (decide_eq_false (by omega)) (A0 (decide_eq_false (by omega)) (A0 (decide_eq_false (by omega)) (A0 (decide_eq_false (by omega)) (A0 (decide_eq_false (by omega)) A2)))))))
theorem may_sat : AJ C0 202 mayS := Af (O := Ab) BN (fun _ _ h => h.elim) Bm fun ps rs hs => by
 unfold mayS at hs
 split at hs
 ·rename_i k c b s g
  split at hs
  ·rename_i hc
   cases hs
   cases b with
   | false => exact A4 (may_f k c s g) (mayOb_ok hc)
   | true => exact A4 (may_t k c s g (decide (k = 7))) (Co (mayOb_ok hc) (A0 (by by_cases h : k = 7 <;> simp [h]) A2))
  ·cases hs
 ·cases hs
noncomputable def CM : Ctx := Ad CU 202 mayS
theorem hPM : Aw CM := A7 hPU (may_sat.ctx rfl rfl) (by kernel_rfl)
def packN (k c s g : Int) (b : Bool) : Int := k + 8 * c + 1024 * s + 67108864 * g + if b then 512 else 0
def packS : Spec
 | [.agg [.v (.int .i64 k), .v (.int .i64 c), .v (.bool b), .v (.int .i64 s), .v (.int .i64 g)]] => if inSta k c s g then some (if !b || decide (k = 7) then [pu (packN k c s g b), A5 0] else [pu 0, A5 1]) else none
 | _ => none
def packW (k c s g : Int) : Int := IntKind.wrap .u64 (IntKind.wrap .u64 (IntKind.wrap .u64 (IntKind.wrap .u64 k + IntKind.wrap .u64 (8 * IntKind.wrap .u64 c)) + IntKind.wrap .u64 (1024 * IntKind.wrap .u64 s)) + IntKind.wrap .u64 (67108864 * IntKind.wrap .u64 g))
theorem pack_no (k c s g : Int) (b : Bool) : sV CM 160 [.agg [di k, di c, db b, di s, di g]] [(A1 160 6, .prim [A3 false])] = some ([pu 0, A5 1], [], [mayS [.agg [di k, di c, db b, di s, di g]] = some [A3 false]]) := by kernel_rfl
theorem pack_f (k c s g n : Int) : sV CM 160 [.agg [di k, di c, db false, di s, di g]] [(A1 160 6, .prim [A3 true]), (A1 160 25, .int n)] = some ([pu n, A5 0], [], [mayS [.agg [di k, di c, db false, di s, di g]] = some [A3 true], packW k c s g = n]) := by kernel_rfl
theorem pack_t (k c s g n n' : Int) : sV CM 160 [.agg [di k, di c, db true, di s, di g]] [(A1 160 6, .prim [A3 true]), (A1 160 25, .int n), (A1 160 29, .int n')] = some ([pu n', A5 0], [], [mayS [.agg [di k, di c, db true, di s, di g]] = some [A3 true], packW k c s g = n, IntKind.wrap .u64 (n + 512) = n']) := by kernel_rfl
theorem packW_ok {k c s g : Int} (h : inSta k c s g) : packW k c s g = packN k c s g false := by
 obtain ⟨⟨_, _⟩, ⟨_, _⟩, ⟨_, _⟩, _, _⟩ := h
 unfold packW packN
 rw [B1 (n := k) (by omega) (by omega), B1 (n := c) (by omega) (by omega), B1 (n := s) (by omega) (by omega), B1 (n := g) (by omega) (by omega), B1 (n := 8 * c) (by omega) (by omega), B1 (n := 1024 * s) (by omega) (by omega),
  B1 (n := 67108864 * g) (by omega) (by omega), B1 (n := k + 8 * c) (by omega) (by omega), B1 (n := k + 8 * c + 1024 * s) (by omega) (by omega), B1 (by omega) (by omega)]
 simp
theorem pack_sat : AJ CM 160 packS := Af (O := Ab) hPM (fun _ _ h => h.elim) Bm fun ps rs hs => by
 unfold packS at hs
 split at hs
 ·rename_i k c b s g
  split at hs
  ·rename_i hc
   cases hs
   have hm : mayS [.agg [di k, di c, db b, di s, di g]] = some [A3 (!b || decide (k = 7))] := by
    simp only [mayS, di, db]
    rw [if_pos hc]
   have hw := packW_ok hc
   obtain ⟨⟨_, _⟩, ⟨_, _⟩, ⟨_, _⟩, _, _⟩ := hc
   cases hq : (!b || decide (k = 7)) with
   | false =>
    rw [hq] at hm
    exact A4 (pack_no k c s g b) (A0 hm A2)
   | true =>
    rw [hq] at hm
    cases b with
    | false => exact A4 (pack_f k c s g _) (A0 hm (A0 hw A2))
    | true => exact A4 (pack_t k c s g _ (packN k c s g true)) (A0 hm (A0 hw (A0 (by
      unfold packN
      rw [B1 (by simp; omega) (by simp; omega)]
      simp) A2)))
  ·cases hs
 ·cases hs
noncomputable def CK : Ctx := Ad CM 160 packS
theorem hPK : Aw CK := A7 hPM (pack_sat.ctx rfl rfl) (by kernel_rfl)
def unrOb (w k c s g : Int) (b : Bool) (q : List PV) : List Prop := [IntKind.wrap .i64 (Int.tmod w 8) = k, IntKind.wrap .i64 (Int.tmod (IntKind.wrap .u64 (Int.tdiv w 8)) 64) = c, (Int.tmod (IntKind.wrap .u64 (Int.tdiv w 512)) 2 == 1) = b, IntKind.wrap .i64 (Int.tmod (IntKind.wrap .u64 (Int.tdiv w 1024)) 65536) = s, IntKind.wrap .i64 (Int.tmod (IntKind.wrap .u64 (Int.tdiv w 67108864)) 4294967296) = g,
 packS [.agg [di k, di c, db b, di s, di g]] = some q]
def unrScr (k c s g : Int) (b : Bool) (q : List PV) (l : Ah) : Ah := [(A1 95 8, .int k), (A1 95 10, .int c), (A1 95 14, .b b), (A1 95 18, .int s), (A1 95 20, .int g), (A1 95 24, .prim q)] ++ l
theorem unr_no (w k c s g : Int) (b : Bool) : sV CK 95 [pu w] (unrScr k c s g b [pu 0, A5 1] []) = some ([.agg staZ, A5 1], [], unrOb w k c s g b [pu 0, A5 1]) := by kernel_rfl
theorem unr_ne (w k c s g n : Int) (b : Bool) : sV CK 95 [pu w] (unrScr k c s g b [pu n, A5 0] [(A1 95 32, .b true)]) = some ([.agg staZ, A5 1], [], unrOb w k c s g b [pu n, A5 0] ++ [(n != w) = true]) := by kernel_rfl
theorem unr_ok (w k c s g n : Int) (b : Bool) : sV CK 95 [pu w] (unrScr k c s g b [pu n, A5 0] [(A1 95 32, .b false)]) = some ([.agg [di k, di c, db b, di s, di g], A5 0], [], unrOb w k c s g b [pu n, A5 0] ++ [(n != w) = false]) := by kernel_rfl
theorem unrOb_ok {w : Nat} (hw : w < 2 ^ 64) {q : List PV} (hq : packS [.agg (At w).cs] = some q) : AI (unrOb w (At w).kind (At w).cpu (At w).seq (At w).gen (At w).bit q) := by
 have e : ∀ m : Nat, Int.tdiv (w : Int) (m : Int) = ((w / m : Nat) : Int) := fun m => (Int.ofNat_tdiv w m).symm
 have e' : ∀ a m : Nat, Int.tmod (a : Int) (m : Int) = ((a % m : Nat) : Int) := fun a m => (Int.ofNat_tmod a m).symm
 have ed : ∀ m : Nat, 0 < m → w / m < 2 ^ 64 := fun m h => Nat.lt_of_le_of_lt (Nat.div_le_self _ _) hw
 have u : ∀ m : Nat, 0 < m → IntKind.wrap .u64 ((w / m : Nat) : Int) = ((w / m : Nat) : Int) := fun m h => B1 (Int.natCast_nonneg _) (by have := ed m h; generalize w / m = q at *; omega)
 have m1 : Int.tmod (w : Int) 8 = _ := e' w 8
 have d2 : Int.tdiv (w : Int) 8 = _ := e 8
 have d3 : Int.tdiv (w : Int) 512 = _ := e 512
 have d4 : Int.tdiv (w : Int) 1024 = _ := e 1024
 have d5 : Int.tdiv (w : Int) 67108864 = _ := e 67108864
 refine A0 ?_ (A0 ?_ (A0 ?_ (A0 ?_ (A0 ?_ (A0 hq A2)))))
 ·rw [m1, Ch (by omega) (by omega)]; rfl
 ·have : Int.tmod ((w / 8 : Nat) : Int) 64 = _ := e' (w / 8) 64
  rw [d2, u 8 (by decide), this, Ch (by omega) (by omega)]; rfl
 ·have : Int.tmod ((w / 512 : Nat) : Int) 2 = _ := e' (w / 512) 2
  rw [d3, u 512 (by decide), this]
  simp only [At]
  by_cases h : w / 512 % 2 = 1
  ·simp [h]
  ·have : w / 512 % 2 = 0 := by omega
   simp [this]
 ·have : Int.tmod ((w / 1024 : Nat) : Int) 65536 = _ := e' (w / 1024) 65536
  rw [d4, u 1024 (by decide), this, Ch (by omega) (by omega)]; rfl
 ·have : Int.tmod ((w / 67108864 : Nat) : Int) 4294967296 = _ := e' (w / 67108864) 4294967296
  rw [d5, u 67108864 (by decide), this, Ch (by omega) (by omega)]; rfl
theorem eq58 {n : Nat} (h : n / 2 ^ 58 = 0) : (((n % 2 ^ 58 : Nat) : Int) != (n : Int)) = false := by
 have : n % 2 ^ 58 = n := by omega
 rw [this]; simp
theorem ne58 {n : Nat} (h : ¬ n / 2 ^ 58 = 0) : (((n % 2 ^ 58 : Nat) : Int) != (n : Int)) = true := by
 have : n % 2 ^ 58 ≠ n := by omega
 have : ((n % 2 ^ 58 : Nat) : Int) ≠ (n : Int) := by omega
 simpa using this
theorem unr_sat : AJ CK 95 AN := Af (O := Ab) hPK (fun _ _ h => h.elim) Bm fun ps rs hs => by
 unfold AN at hs
 split at hs
 ·rename_i w
  split at hs
  ·rename_i hc
   obtain ⟨n, rfl⟩ := Int.eq_ofNat_of_zero_le hc.1
   have hn : n < 2 ^ 64 := by have := hc.2; exact_mod_cast this
   simp only [Option.some.injEq, Int.toNat_natCast] at hs
   subst hs
   have hin : inSta (At n).kind (At n).cpu (At n).seq (At n).gen := by
    simp only [inSta, At]
    omega
   have hp : packS [.agg (At n).cs] = some (if !(At n).bit || decide (((At n).kind : Int) = 7) then [pu (packN (At n).kind (At n).cpu (At n).seq (At n).gen (At n).bit), A5 0] else [pu 0, A5 1]) := by
    simp only [packS, Sta.cs, di, db]
    rw [if_pos hin]
   have hN : packN (At n).kind (At n).cpu (At n).seq (At n).gen (At n).bit = ((n % 2 ^ 58 : Nat) : Int) := by
    simp only [packN, At]
    by_cases h : n / 512 % 2 = 1
    ·simp [h]; omega
    ·simp [h]; omega
   have hcast : decide (((At n).kind : Int) = 7) = decide ((At n).kind = 7) := by
    by_cases h : (At n).kind = 7
    ·simp [h]
    ·have : ¬ ((At n).kind : Int) = 7 := by omega
     simp [h, this]
   rw [hcast, hN] at hp
   unfold unpackR Ck
   cases hq : (!(At n).bit || decide ((At n).kind = 7)) with
   | false =>
    rw [hq] at hp
    rw [if_neg (by simp)]
    exact A4 (unr_no n _ _ _ _ _) (unrOb_ok hn hp)
   | true =>
    rw [hq] at hp
    by_cases h58 : n / 2 ^ 58 = 0
    ·rw [if_pos (by simp [h58])]
     exact A4 (unr_ok n _ _ _ _ _ _) (Co (unrOb_ok hn hp) (A0 (eq58 h58) A2))
    ·rw [if_neg (by simp [h58])]
     exact A4 (unr_ne n _ _ _ _ _ _) (Co (unrOb_ok hn hp) (A0 (ne58 h58) A2))
  ·cases hs
 ·cases hs
def A6 (l : List Int) : A8 := l.map fun n => [di n]
theorem B2 {l : List Int} {i : Nat} {x : Int} (h : l[i]? = some x) : (A6 l)[((i : Nat) : Int).toNat]? = some [di x] := by simp [A6, h]
def left (n : Nat) (out : List Int) : Nat := ((List.range n).filter fun i : Nat => !out.contains (i : Int)).length
theorem left_lt {n : Nat} {out : List Int} {x : Nat} (h1 : x < n) (h2 : out.contains (x : Int) = false) : left n (out ++ [(x : Int)]) < left n out := by
 have e : ((List.range n).filter fun i : Nat => !(out ++ [(x : Int)]).contains (i : Int)) = ((List.range n).filter fun i : Nat => !out.contains (i : Int)).filter fun i : Nat => !(decide (i = x)) := by
  rw [List.filter_filter]
  congr 1
  funext i
  have hx : ([(x : Int)] : List Int).contains (i : Int) = decide (i = x) := by
   by_cases h : i = x
   ·subst h; simp
   ·have : ¬ (i : Int) = (x : Int) := by omega
    simp [h, this]
  simp only [List.contains_append, hx, Bool.not_or]
  exact Bool.and_comm _ _
 unfold left
 rw [e]
 refine List.length_filter_lt_length_iff_exists.2 ⟨x, ?_, by simp⟩
 rw [List.mem_filter]
 exact ⟨List.mem_range.2 h1, by rw [h2]; rfl⟩
theorem Cx (n : Nat) : left n [] = n := by
 have : ((List.range n).filter fun i : Nat => !([] : List Int).contains (i : Int)) = List.range n := List.filter_eq_self.2 (fun _ _ => rfl)
 unfold left
 rw [this]
 simp
def lwalk (next : List Int) : Nat → Int → List Int → Option (List Int)
 | 0, _, _ => none
 | k + 1, x, out => if x = -1 then some out else if x < 0 ∨ (next.length : Int) ≤ x ∨ out.contains x = true then none else lwalk next k ((next[x.toNat]?).getD 0) (out ++ [x])
def linkIn (next out : List Int) : Bool := (List.range next.length).all fun i : Nat => out.contains (i : Int) != decide (next[i]? = some (-2))
def Cm (head : Int) (next : List Int) : Option (List Int) :=
 if 64 < next.length then none else match lwalk next (next.length + 1) head [] with
  | none => none
  | some out => if linkIn next out then some out else none
def apR (sz s : Nat) : A8 → AV
 | [] => .d dnil
 | r :: l => .st sz (r :: l) s (2 * l.length + 1)
def Ct (s : Nat) : A8 → AC
 | [] => []
 | r :: l => [(s, 2 * l.length + 1)]
def rowD (sz : Nat) : A8 → DV
 | [] => dnil
 | r :: l => .sl sz false (r :: l)
def intR : List DV → Option Int
 | [.v (.int .i64 n)] => some n
 | _ => none
def intsD : DV → Option (List Int)
 | .v (.slice none 0 0) => some []
 | .sl 1 _ rows => Ae intR rows
 | _ => none
theorem intsR_eq {rows : A8} {l : List Int} (h : Ae intR rows = some l) : rows = A6 l := by
 induction rows generalizing l with
 | nil => simp [Ae] at h; subst h; rfl
 | cons r rows ih =>
  simp only [Ae] at h
  cases e1 : intR r with
  | none => simp [e1] at h
  | some a =>
   cases e2 : Ae intR rows with
   | none => simp [e1, e2] at h
   | some l' =>
    simp only [e1, e2, Option.some.injEq] at h
    subst h
    unfold intR at e1
    split at e1
    ·simp only [Option.some.injEq] at e1
     subst e1
     simp only [A6, List.map_cons]
     rw [ih e2]; rfl
    ·cases e1
theorem Br : ∀ l : List Int, Ae intR (A6 l) = some l
 | [] => rfl
 | a :: l => by
  have h : Ae intR (l.map fun n => [di n]) = some l := Br l
  have e : intR [di a] = some a := rfl
  simp only [A6, List.map_cons, Ae, h, e]
theorem intsD_rowD (l : List Int) : intsD (rowD 1 (A6 l)) = some l := by
 cases l with
 | nil => rfl
 | cons a l => exact Br (a :: l)
theorem irows_snoc (l : List Int) (x : Int) : A6 l ++ [[di x]] = A6 (l ++ [x]) := by simp [A6]
theorem Ax (l : List Int) : (A6 l).length = l.length := by simp [A6]
inductive DW : DV → DV → Prop
 | same (y : DV) : DW y y
 | nil (sz : Nat) : DW (.v (.slice none 0 0)) (.mn sz [])
 | row (sz : Nat) (f : Bool) (rows : A8) : DW (.sl sz f rows) (.mn sz rows)
theorem DW.rd {F : Nat → Nat → Prop} {w : World} {y z : DV} {v : Value} (h : DW y z) (hr : RD F w y v) : RD F w z v := by
 cases h with
 | same => exact hr
 | nil sz => cases hr; exact .mn0 sz
 | row sz f rows =>
  cases hr with
  | sl _ _ _ b o len cap xs hlen hcap hfull hsz hc hr => exact .mn _ _ _ (.sl sz false rows b o len cap xs hlen hcap (fun h => by cases h) hsz hc hr)
inductive PW : PV → PV → Prop
 | one {y z : DV} (h : DW y z) : PW (.one y) (.one z)
 | agg {cs ds : List DV} (hl : cs.length = ds.length) (h : ∀ (i : Nat) (y z : DV), cs[i]? = some y → ds[i]? = some z → DW y z) : PW (.agg cs) (.agg ds)
 | same (p : PV) : PW p p
theorem PW.rp {F : Nat → Nat → Prop} {w : World} {p q : PV} {v : Value} (h : PW p q) (hr : RP F w p v) : RP F w q v := by
 cases h with
 | one h => cases hr with | one _ _ hr => exact .one _ _ (h.rd hr)
 | agg hl h =>
  rename_i cs ds
  cases hr with
  | agg _ vs hl2 hr =>
   refine .agg ds vs (hl.symm.trans hl2) fun i z x hz hx => ?_
   have hi : i < cs.length := by rw [hl]; exact (List.getElem?_eq_some_iff.1 hz).1
   exact (h i _ z (List.getElem?_eq_getElem hi) hz).rd (hr i _ x (List.getElem?_eq_getElem hi) hx)
 | same => exact hr
def WL (ps qs : List PV) : Prop := ps.length = qs.length ∧ ∀ (i : Nat) (p q : PV), ps[i]? = some p → qs[i]? = some q → PW p q
theorem WL.nil : WL [] [] := ⟨rfl, fun i p q h => by simp at h⟩
theorem WL.cons {p q : PV} {ps qs : List PV} (h : PW p q) (hl : WL ps qs) : WL (p :: ps) (q :: qs) := ⟨by simp [hl.1], fun i a b ha hb => by
 cases i with
 | zero =>
  simp only [List.getElem?_cons_zero, Option.some.injEq] at ha hb
  subst ha; subst hb; exact h
 | succ i => exact hl.2 i a b (by simpa using ha) (by simpa using hb)⟩
theorem WL.same (ps : List PV) : WL ps ps := ⟨rfl, fun i p q ha hb => by rw [ha] at hb; cases hb; exact .same _⟩
theorem WL.rps {F : Nat → Nat → Prop} {w : World} {ps qs : List PV} {vs : List Value} (h : WL ps qs) (hr : RPs F w ps vs) : RPs F w qs vs :=
 ⟨h.1.symm.trans hr.1, fun i q v hq hv => by
  have hi : i < ps.length := by rw [h.1]; exact (List.getElem?_eq_some_iff.1 hq).1
  exact (h.2 i _ q (List.getElem?_eq_getElem hi) hq).rp (hr.2 i _ v (List.getElem?_eq_getElem hi) hv)⟩
theorem WL.rr {F : Nat → Nat → Prop} {w : World} {ps qs : List PV} {v : Value} (h : WL ps qs) (hr : RR F w ps v) : RR F w qs v := by
 cases hr with
 | one p v hp =>
  obtain ⟨hl, hk⟩ := h
  match qs, hl with
  | [q], _ => exact .one _ _ ((hk 0 p q rfl rfl).rp hp)
 | many ps vs hn hp => exact .many _ _ (by rw [← h.1]; exact hn) (h.rps hp)
theorem AJ.weak {C : Ctx} {g : FuncId} {spec spec' : List PV → Option (List PV)} (hS : AJ C g spec) (h : ∀ ps rs, spec' ps = some rs → ∃ ps0 rs0, WL ps ps0 ∧ spec ps0 = some rs0 ∧ WL rs0 rs) : AJ C g spec' := by
 intro ps rs hs F w vs hF hG hvs
 obtain ⟨ps0, rs0, h1, h2, h3⟩ := h ps rs hs
 refine (hS ps0 rs0 h2 F w vs hF hG (h1.rps hvs)).mono ?_
 rintro e w' ⟨v, F', he, hb, hf, hn, hz, hr⟩
 exact ⟨v, F', he, hb, hf, hn, hz, h3.rr hr⟩
theorem DW.rowD (sz : Nat) (rows : A8) : DW (match rows with | [] => (.v (.slice none 0 0) : DV) | r :: l => .sl sz false (r :: l)) (.mn sz rows) := by
 cases rows with
 | nil => exact .nil sz
 | cons r l => exact .row sz false (r :: l)
open Classical in
theorem Bh {C : Ctx} {O : Task → Res → Prop} (hP : Aw C) (hO : ∀ t r, O t r → Mot C t r) (hm : C.P.follows .mixedOrders = true) {g : FuncId} {spec : List PV → Option (List PV)}
  (h : ∀ ps rs, spec ps = some rs → ∃ ps0 rs0, WL ps ps0 ∧ WL rs0 rs ∧ ∃ a h1 h2, Ev C O (.call g (ps0.map ofPV) {}) (.val a h1) ∧ resA h1 a = some (rs0, h2)) : AJ C g spec := by
 intro ps rs hs
 obtain ⟨ps0, rs0, h1, h2, h3⟩ := h ps rs hs
 have hS : AJ C g (fun q => if q = ps0 then some rs0 else none) := Af hP hO hm fun q r hq => by
  split at hq
  ·rename_i e
   subst e
   simp only [Option.some.injEq] at hq
   subst hq
   exact h3
  ·cases hq
 exact (hS.weak (spec' := fun q => if q = ps then some rs else none) fun q r hq => by
  split at hq
  ·rename_i e
   subst e
   simp only [Option.some.injEq] at hq
   subst hq
   exact ⟨ps0, rs0, h1, by simp, h2⟩
  ·cases hq) ps rs (by simp)
def mnR (sz : Nat) : DV → Option (A8)
 | .v (.slice none 0 0) => some []
 | .sl sz' _ rows => if sz' = sz then some rows else none
 | .mn sz' rows => if sz' = sz then some rows else none
 | _ => none
theorem mnR_dw {sz : Nat} {d : DV} {rows : A8} (h : mnR sz d = some rows) : DW d (.mn sz rows) := by
 unfold mnR at h
 split at h
 ·cases h; exact .nil sz
 ·split at h
  ·rename_i e
   cases h; subst e; exact .row _ _ _
  ·cases h
 ·split at h
  ·rename_i e
   cases h; subst e; exact .same _
  ·cases h
 ·cases h
theorem mnR_nil (sz : Nat) : mnR sz (.v (.slice none 0 0)) = some [] := rfl
theorem mnR_sl (sz : Nat) (f : Bool) (rows : A8) : mnR sz (.sl sz f rows) = some rows := by simp [mnR]
theorem mnR_mn (sz : Nat) (rows : A8) : mnR sz (.mn sz rows) = some rows := by simp [mnR]
def intM (d : DV) : Option (List Int) := match mnR 1 d with
 | some rows => Ae intR rows
 | none => none
end Go.Ev
