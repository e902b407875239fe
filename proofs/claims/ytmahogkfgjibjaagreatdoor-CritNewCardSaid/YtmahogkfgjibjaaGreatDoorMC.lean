/- What the proof of this claim needs: part MC. No conditions. -/
import Derived.Test.YtmahogkfgjibjaaGreatDoorMB
set_option linter.unusedVariables false
set_option linter.unusedSimpArgs false

namespace Go.Ev
open Go Go.RowKit

inductive Dec where
  | b (t : Bool)
  | int (n : Int)
  | row (r : List DV)
  | idx (n : Nat)
  | res (a : AV) (h : H)
  | cut (l hg m : Nat) (a : AV)
  | app (e : Bool)
  | eqv (t : Bool)
  | prim (rs : List PV)
  | primA (ps rs : List PV)
  | look (a : AV)
  | upd (es : List (Value × Bool × List DV))
  | ent (a : AV)
  | ld (a : AV)
  | sto (cs : List AV)
  | clr (z : Bool) (cs : List AV)
  | drop (L keep : List Nat)
  | trunc (L : List (Nat × Nat)) (keep : List Nat)
  | rng (keep : List Nat) (a : AV) (h : H)
  | frz (t : Nat) (p : PV) (h : H) (si g : Nat)
  | val (t : Nat)
  | ari (k : IntKind) (n : Int)
  | cpy (a : AV) (h : H)
  | mks (k : Nat)
  | loop (keep : List Nat) (x : X) (s : St)
  | call (a : AV) (h : H)
abbrev Script := List (Nat × Dec)

def rowAddr (C : Ctx) (o : Oper) (ρ : Operand → AV) : Option (List (List DV) × Int) :=
  match o.op with
  | .indexAddr t x i => match intOfA (ρ i), C.P.underlying t with
    | some i, some (.slice elem) => match sizeT C elem with
      | some sz => match ρ x with
        | .d (.sl sz' _ rows) | .st sz' rows _ _ => if sz' = sz then some (rows, i) else none
        | _ => none
      | none => none
    | _, _ => none
  | _ => none
theorem rowAddr_op {C : Ctx} {fn : FuncId} {o : Oper} {ρ : Operand → AV} {h : H} {rows : List (List DV)} {i : Int} {r : List DV} (e : rowAddr C o ρ = some (rows, i)) (h0 : 0 ≤ i) (hr : rows[i.toNat]? = some r) :
    opFun C fn o ρ h = some (.pin r 0, h) := by
  have hlt : i < rows.length := by
    have := (List.getElem?_eq_some_iff.1 hr).1
    omega
  unfold rowAddr at e
  split at e
  · rename_i t x i' hop
    split at e
    · rename_i i2 elem hi ht
      split at e
      · rename_i sz hs
        split at e
        · rename_i sz' f rows' hx
          split at e
          · rename_i hsz
            simp only [Option.some.injEq, Prod.mk.injEq] at e
            obtain ⟨rfl, rfl⟩ := e
            simp [opFun, hop, indexAddrOp, hi, ht, hs, hx, hsz, h0, hlt, hr]
            exact (List.getElem?_eq_some_iff.1 hr).2
          · cases e
        · rename_i sz' rows' s g hx
          split at e
          · rename_i hsz
            simp only [Option.some.injEq, Prod.mk.injEq] at e
            obtain ⟨rfl, rfl⟩ := e
            simp [opFun, hop, indexAddrOp, hi, ht, hs, hx, hsz, h0, hlt, hr]
            exact (List.getElem?_eq_some_iff.1 hr).2
          · cases e
        · cases e
      · cases e
    · cases e
  · cases e

/-- the object's part that an index names -/
def idxAddr (C : Ctx) (o : Oper) (ρ : Operand → AV) (n : Nat) : Option (AV × Nat × Int) :=
  match o.op with
  | .indexAddr t x i => match intOfA (ρ i), C.P.underlying t with
    | some i, some (.array len elem) => match sizeT C elem with
      | some sz => match addOff (ρ x) (n * sz) with
        | some a => some (a, len, i)
        | none => none
      | none => none
    | some i, some (.slice elem) => match sizeT C elem with
      | some sz => match ρ x with
        | .hs s g off len sz' => if sz' = sz then some (.ptr s g (off + n * sz), len, i) else none
        | _ => none
      | none => none
    | _, _ => none
  | _ => none
theorem idxAddr_op {C : Ctx} {fn : FuncId} {o : Oper} {ρ : Operand → AV} {h : H} {n len : Nat} {i : Int} {a : AV} (e : idxAddr C o ρ n = some (a, len, i)) (hi : i = n) (hn : n < len) :
    opFun C fn o ρ h = some (a, h) := by
  subst hi
  have hlt : (n : Int) < len := by omega
  unfold idxAddr at e
  split at e
  · rename_i t x i' hop
    split at e
    · rename_i i2 len' elem hi ht
      split at e
      · rename_i sz hs
        split at e
        · rename_i a' ha
          simp only [Option.some.injEq, Prod.mk.injEq] at e
          obtain ⟨rfl, rfl, rfl⟩ := e
          simp [opFun, hop, indexAddrOp, hi, ht, hs, hlt, ha]
        · cases e
      · cases e
    · rename_i i2 elem hi ht
      split at e
      · rename_i sz hs
        split at e
        · rename_i s g off len' sz' hx
          split at e
          · rename_i hsz
            simp only [Option.some.injEq, Prod.mk.injEq] at e
            obtain ⟨rfl, rfl, rfl⟩ := e
            simp [opFun, hop, indexAddrOp, hi, ht, hs, hx, hsz, hlt]
          · cases e
        · cases e
      · cases e
    · cases e
  · cases e

theorem still_bind' {P : Program} {α β : Type} {s : Sem α} {f : α → Sem β} : still P (s >>= f) = (still P s).bind fun a => still P (f a) := by
  show still P (s.bind f) = _
  induction s with
  | pure b => rfl
  | program k ih => simp only [Sem.bind, still]; exact ih P
  | mark m k ih => simp only [Sem.bind, still]; exact ih
  | _ => rfl
def eqvOf (C : Ctx) (o : Oper) (ρ : Operand → AV) (t : Bool) : Option (Bool × Prop) :=
  match o.op with
  | .binOp op ty x y _ => match toV (ρ x), toV (ρ y) with
    | some (.agg xs), some (.agg ys) => match still C.P (eqGuard op ty x y (.agg xs) (.agg ys)) with
      | some _ => match op with
        | .eql => some (t, still C.P (Op.equal ty (.agg xs) (.agg ys)) = some t)
        | .neq => some (!t, still C.P (Op.equal ty (.agg xs) (.agg ys)) = some t)
        | _ => none
      | none => none
    | _, _ => none
  | _ => none
theorem eqvOf_op {C : Ctx} {fn : FuncId} {o : Oper} {ρ : Operand → AV} {h : H} {t b : Bool} {p : Prop} (e : eqvOf C o ρ t = some (b, p)) (hp : p) : opFun C fn o ρ h = some (.d (.v (.bool b)), h) := by
  unfold eqvOf at e
  split at e
  · rename_i op ty x y yt hop
    split at e
    · rename_i xs ys hx hy
      split at e
      · rename_i u hg
        have key : ∀ r, still C.P (binOp op ty (.agg xs) (.agg ys)) = some r → plainOp C o ρ = some (ofV r) := by
          intro r hr
          unfold plainOp
          have hall : (o.op.operands.toList.all fun x => (toV (ρ x)).isSome) = true := by simp [hop, Op.operands, hx, hy]
          rw [if_pos hall]
          have he : still C.P (execOp (fun x => (toV (ρ x)).getD undef) o) = some (.value r) := by
            simp only [execOp, hop, hx, hy, Option.getD_some]
            simp only [still_bind', hg, hr, Option.bind_some]
            rfl
          rw [he]
        split at e
        · simp only [Option.some.injEq, Prod.mk.injEq] at e
          obtain ⟨rfl, rfl⟩ := e
          have := key (.bool t) (by simp only [binOp, still_bind', hp, Option.bind_some]; rfl)
          simp [opFun, hop, this, ofV, ofV1]
        · simp only [Option.some.injEq, Prod.mk.injEq] at e
          obtain ⟨rfl, rfl⟩ := e
          have := key (.bool (!t)) (by simp only [binOp, still_bind', hp, Option.bind_some]; rfl)
          simp [opFun, hop, this, ofV, ofV1]
        · cases e
      · cases e
    · cases e
  · cases e

def primOf (C : Ctx) (o : Oper) (ρ : Operand → AV) (h : H) : Option ((List PV → Option (List PV)) × List PV × H) :=
  match o.op with
  | .call c => match c.callee with
    | .value f => match calleeA (ρ f) with
      | some (.fn (.func g), first, cap) => match C.prim g with
        | some spec => match freezeAll h (first ++ c.args.toList.map ρ ++ cap) with
          | some (ps, h1) => some (spec, ps, h1)
          | none => none
        | none => none
      | _ => none
    | .invoke rv m => match methA C (ρ rv) m with
      | some (g, recv) => match C.prim g with
        | some spec => match freezeAll h (recv :: c.args.toList.map ρ) with
          | some (ps, h1) => some (spec, ps, h1)
          | none => none
        | none => none
      | none => none
    | _ => none
  | _ => none
theorem primOf_op {C : Ctx} {fn : FuncId} {o : Oper} {ρ : Operand → AV} {h h1 : H} {spec : List PV → Option (List PV)} {ps rs : List PV} (e : primOf C o ρ h = some (spec, ps, h1)) (hp : spec ps = some rs) :
    opFun C fn o ρ h = some (ofPVs rs, if scalarR rs then h else h1) := by
  unfold primOf at e
  split at e
  · rename_i c hop
    split at e
    · rename_i f hcal
      split at e
      · rename_i g first cap hg
        split at e
        · rename_i spec' hs
          split at e
          · rename_i ps' h1' hf
            simp only [Option.some.injEq, Prod.mk.injEq] at e
            obtain ⟨rfl, rfl, rfl⟩ := e
            simp only [opFun, hop, hcal, hg, hs, hf, hp]
          · cases e
        · cases e
      · cases e
    · rename_i rv m hcal
      split at e
      · rename_i g recv hg
        split at e
        · rename_i spec' hs
          split at e
          · rename_i ps' h1' hf
            simp only [Option.some.injEq, Prod.mk.injEq] at e
            obtain ⟨rfl, rfl, rfl⟩ := e
            simp only [opFun, hop, hcal, hg, hs, hf, hp]
          · cases e
        · cases e
      · cases e
    · cases e
  · cases e

/-- the same, where the arguments' values are told as well -/
def primArgs (C : Ctx) (o : Oper) (ρ : Operand → AV) : Option ((List PV → Option (List PV)) × List AV) :=
  match o.op with
  | .call c => match c.callee with
    | .value f => match calleeA (ρ f) with
      | some (.fn (.func g), first, cap) => match C.prim g with
        | some spec => some (spec, first ++ c.args.toList.map ρ ++ cap)
        | none => none
      | _ => none
    | _ => none
  | _ => none
theorem primArgs_op {C : Ctx} {fn : FuncId} {o : Oper} {ρ : Operand → AV} {h h1 : H} {spec : List PV → Option (List PV)} {as : List AV} {ps rs : List PV} (e : primArgs C o ρ = some (spec, as)) (hf : freezeAll h as = some (ps, h1)) (hp : spec ps = some rs) :
    opFun C fn o ρ h = some (ofPVs rs, if scalarR rs then h else h1) := by
  unfold primArgs at e
  split at e
  · rename_i c hop
    split at e
    · rename_i f hcal
      split at e
      · rename_i g first cap hg
        split at e
        · rename_i spec' hs
          simp only [Option.some.injEq, Prod.mk.injEq] at e
          obtain ⟨rfl, rfl⟩ := e
          simp only [opFun, hop, hcal, hg, hs, hf, hp]
        · cases e
      · cases e
    · cases e
  · cases e

def fitsP (n m by_ : Nat) : Prop := (2 * (n + m) + 1000) * by_ ≤ 2 ^ 47
/-- an append, as the script tells whether anything is appended -/
def appS (C : Ctx) (fn : FuncId) (dst : Option Tmp) (e : Bool) (sz by_ : Nat) (s : AV) (more : List (List DV)) (h : H) : Option (AV × H × Prop) :=
  if C.nt fn (dst.getD 8000) then
    match s with
    | .d (.v (.slice none 0 0)) => if e then some (s, h, more.isEmpty = true) else some (.d (.sl sz false more), h, more.isEmpty = false ∧ fitsP 0 more.length by_)
    | .d (.sl sz' true rows) => if sz' = sz then (if e then some (s, h, more.isEmpty = true) else some (.d (.sl sz false (rows ++ more)), h, more.isEmpty = false ∧ fitsP rows.length more.length by_)) else none
    | _ => none
  else if C.wr fn (dst.getD 8000) && !e then
    match s with
    | .d (.v (.slice none 0 0)) => some (.hs (siteOf fn dst) (h.count (siteOf fn dst)) 0 (0 + more.length) sz, h.push (siteOf fn dst) (.cells ([] ++ more.flatten.map .d) false), more.isEmpty = false ∧ fitsP 0 more.length by_)
    | .d (.sl sz' true rows) => if sz' = sz then some (.hs (siteOf fn dst) (h.count (siteOf fn dst)) 0 (rows.length + more.length) sz, h.push (siteOf fn dst) (.cells (rows.flatten.map .d ++ more.flatten.map .d) false), more.isEmpty = false ∧ fitsP rows.length more.length by_) else none
    | .hs s0 g0 off len sz' => match h.get s0 g0 with
      | some (.cells cs false) => if sz' = sz then some (.hs (siteOf fn dst) ((h.set s0 g0 .dead).count (siteOf fn dst)) 0 (len + more.length) sz, (h.set s0 g0 .dead).push (siteOf fn dst) (.cells (cs ++ more.flatten.map .d) false),
          more.isEmpty = false ∧ (off = 0 ∧ 0 < len ∧ cs.length = len * sz) ∧ fitsP len more.length by_) else none
      | _ => none
    | _ => none
  else
    match s with
    | .d (.v (.slice none 0 0)) => if e then some (s, h, more.isEmpty = true) else some (.st sz ([] ++ more) (siteOf fn dst) (h.tok (siteOf fn dst) + 1), h.setTok (siteOf fn dst) (h.tok (siteOf fn dst) + 1), more.isEmpty = false ∧ fitsP 0 more.length by_)
    | .d (.sl sz' true rows) => if sz' = sz then (if e then some (s, h, more.isEmpty = true) else some (.st sz (rows ++ more) (siteOf fn dst) (h.tok (siteOf fn dst) + 1), h.setTok (siteOf fn dst) (h.tok (siteOf fn dst) + 1), more.isEmpty = false ∧ fitsP rows.length more.length by_)) else none
    | .st sz' rows s0 g0 => if sz' = sz then some (.st sz (rows ++ more) (siteOf fn dst) ((h.setTok s0 (g0 + 1)).tok (siteOf fn dst) + 1), (h.setTok s0 (g0 + 1)).setTok (siteOf fn dst) ((h.setTok s0 (g0 + 1)).tok (siteOf fn dst) + 1), more.isEmpty = e ∧ h.tok s0 = g0 ∧ fitsP rows.length more.length by_) else none
    | _ => none
def appOf (C : Ctx) (fn : FuncId) (o : Oper) (ρ : Operand → AV) (h : H) (e : Bool) : Option (AV × H × Prop) :=
  match o.op with
  | .call { callee := .builtin .append, args := args, argTypes := ats } => match args.toList, ats.toList with
    | [s, x], [t, u] => match C.P.underlying u with
      | some (.slice _) => match C.P.underlying t with
        | some (.slice elem) => match sizeT C elem, bytesT C elem, zeroT C elem with
          | some sz, some by_, some z => match appArg sz h (ρ x) with
            | some (sz1, more) => if sz1 = sz ∧ z.cells.size = sz ∧ 0 < sz ∧ 0 < by_ then appS C fn o.dst e sz by_ (ρ s) more h else none
            | none => none
          | _, _, _ => none
        | _ => none
      | _ => none
    | _, _ => none
  | _ => none
theorem appOf_op {C : Ctx} {fn : FuncId} {o : Oper} {ρ : Operand → AV} {h h' : H} {e : Bool} {a : AV} {p : Prop} (he : appOf C fn o ρ h e = some (a, h', p)) (hp : p) : opFun C fn o ρ h = some (a, h') := by
  unfold appOf at he
  split at he
  · rename_i args ats hop
    split at he
    · rename_i s x t u ha hts
      split at he
      · rename_i eu hu
        split at he
        · rename_i elem ht
          split at he
          · rename_i sz by_ z e1 e2 e3
            split at he
            · rename_i sz1 more em
              split at he
              · rename_i hc
                simp only [opFun, hop, ha, hts, hu, appendOp, ht, e1, e2, e3, em]
                rw [if_pos hc]
                unfold appS at he
                generalize ρ s = sv at he ⊢
                split at he
                · rename_i hnt
                  rw [if_pos hnt]
                  unfold ntAppend
                  split at he
                  · split at he
                    · simp only [Option.some.injEq, Prod.mk.injEq] at he
                      obtain ⟨rfl, rfl, rfl⟩ := he
                      simp [hp]
                    · simp only [Option.some.injEq, Prod.mk.injEq] at he
                      obtain ⟨rfl, rfl, rfl⟩ := he
                      obtain ⟨p1, p2⟩ := hp
                      unfold fitsP at p2
                      simp only [Nat.zero_add] at p2
                      simp only [p1]
                      simp
                      simpa using p2
                  · split at he
                    · rename_i hsz
                      split at he
                      · simp only [Option.some.injEq, Prod.mk.injEq] at he
                        obtain ⟨rfl, rfl, rfl⟩ := he
                        simp [hp, hsz]
                      · simp only [Option.some.injEq, Prod.mk.injEq] at he
                        obtain ⟨rfl, rfl, rfl⟩ := he
                        obtain ⟨p1, p2⟩ := hp
                        unfold fitsP at p2
                        simp only [p1, hsz]
                        simp
                        simpa using p2
                    · cases he
                  · cases he
                · rename_i hnt
                  rw [if_neg hnt]
                  split at he
                  · rename_i hwr
                    simp only [Bool.and_eq_true, Bool.not_eq_true'] at hwr
                    obtain ⟨hwr, rfl⟩ := hwr
                    have hne : ∀ q : Prop, (more.isEmpty = false ∧ q) → (C.wr fn (o.dst.getD 8000) && !more.isEmpty) = true := fun q hq => by simp [hwr, hq.1]
                    split at he
                    · simp only [Option.some.injEq, Prod.mk.injEq] at he
                      obtain ⟨rfl, rfl, rfl⟩ := he
                      rw [if_pos (hne _ hp)]
                      obtain ⟨p1, p2⟩ := hp
                      unfold fitsP at p2
                      simp only [ownAppend, p1, ownNew]
                      rw [if_pos p2]; rfl
                    · split at he
                      · rename_i hsz
                        simp only [Option.some.injEq, Prod.mk.injEq] at he
                        obtain ⟨rfl, rfl, rfl⟩ := he
                        rw [if_pos (hne _ hp)]
                        obtain ⟨p1, p2⟩ := hp
                        unfold fitsP at p2
                        simp only [ownAppend, p1, ownNew, hsz]
                        rw [if_pos p2]; rfl
                      · cases he
                    · rename_i s0 g0 off len sz'
                      split at he
                      · rename_i cs eg
                        split at he
                        · rename_i hsz
                          simp only [Option.some.injEq, Prod.mk.injEq] at he
                          obtain ⟨rfl, rfl, rfl⟩ := he
                          rw [if_pos (hne _ hp)]
                          obtain ⟨p1, ⟨q1, q2, q3⟩, p2⟩ := hp
                          unfold fitsP at p2
                          simp only [ownAppend, p1, ownNew, eg]
                          rw [if_pos (⟨hsz, q1, q2, q3⟩ : sz' = sz ∧ off = 0 ∧ 0 < len ∧ cs.length = len * sz), if_pos p2]; rfl
                        · cases he
                      · cases he
                    · cases he
                  · rename_i hwr
                    have hno : more.isEmpty = e → ¬ (C.wr fn (o.dst.getD 8000) && !more.isEmpty) = true := fun h => by rw [h]; exact hwr
                    split at he
                    · split at he
                      · rename_i htr
                        simp only [Option.some.injEq, Prod.mk.injEq] at he
                        obtain ⟨rfl, rfl, rfl⟩ := he
                        rw [if_neg (hno (hp.trans htr.symm))]
                        simp [hp]
                      · rename_i htr
                        simp only [Option.some.injEq, Prod.mk.injEq] at he
                        obtain ⟨rfl, rfl, rfl⟩ := he
                        obtain ⟨p1, p2⟩ := hp
                        rw [if_neg (hno (by rw [p1]; simpa using htr))]
                        unfold fitsP at p2
                        simp only [p1]
                        simp
                        simpa using p2
                    · split at he
                      · rename_i hsz
                        split at he
                        · rename_i htr
                          simp only [Option.some.injEq, Prod.mk.injEq] at he
                          obtain ⟨rfl, rfl, rfl⟩ := he
                          rw [if_neg (hno (hp.trans htr.symm))]
                          simp [hp, hsz]
                        · rename_i htr
                          simp only [Option.some.injEq, Prod.mk.injEq] at he
                          obtain ⟨rfl, rfl, rfl⟩ := he
                          obtain ⟨p1, p2⟩ := hp
                          rw [if_neg (hno (by rw [p1]; simpa using htr))]
                          unfold fitsP at p2
                          simp only [p1, hsz]
                          simp
                          simpa using p2
                      · cases he
                    · split at he
                      · rename_i hsz
                        simp only [Option.some.injEq, Prod.mk.injEq] at he
                        obtain ⟨rfl, rfl, rfl⟩ := he
                        obtain ⟨p1, p3, p2⟩ := hp
                        rw [if_neg (hno p1)]
                        unfold fitsP at p2
                        simp only [hsz, p3, and_self, if_true]
                        simp
                        simpa using p2
                      · cases he
                    · cases he
              · cases he
            · cases he
          · cases he
        · cases he
      · cases he
    · cases he
  · cases he

def bndOf (ρ : Operand → AV) : Option Operand → Option (Option Int)
  | none => some none
  | some x => match intOfA (ρ x) with
    | some i => some (some i)
    | none => none
def bnd (o : Option Int) (d n : Nat) : Prop := match o with
  | none => n = d
  | some i => i = n
theorem boundA_of {ρ : Operand → AV} {x : Option Operand} {o : Option Int} {d n : Nat} (e : bndOf ρ x = some o) (hb : bnd o d n) : boundA ρ d x = some n := by
  cases x with
  | none =>
    simp only [bndOf, Option.some.injEq] at e
    subst e
    simp only [bnd] at hb
    simp [boundA, hb]
  | some x =>
    simp only [bndOf] at e
    split at e
    · rename_i i hi
      simp only [Option.some.injEq] at e
      subst e
      simp only [bnd] at hb
      subst hb
      simp [boundA, hi]
    · cases e
/-- the parts of a slice expression -/
def cutOf (C : Ctx) (o : Oper) (ρ : Operand → AV) : Option (Nat × AV × Option Int × Option Int × Option Int) :=
  match o.op with
  | .slice t x lo hi mx => match C.P.underlying t with
    | some (.slice elem) => match sizeT C elem, bndOf ρ lo, bndOf ρ hi, bndOf ρ mx with
      | some sz, some l, some hg, some m => if mx.isSome && !hi.isSome then none else some (sz, ρ x, l, hg, m)
      | _, _, _, _ => none
    | _ => none
  | _ => none
def cutGoal (sz : Nat) (x : AV) (lo hi mx : Option Int) (l hg m : Nat) (a : AV) : Prop :=
  match x with
  | .d (.sl sz' full rows) => sz' = sz ∧ bnd lo 0 l ∧ bnd hi rows.length hg ∧ bnd mx rows.length m ∧ l ≤ hg ∧ hg ≤ m ∧ m ≤ rows.length ∧
      a = .d (.sl sz ((mx.isSome && decide (m = hg)) || (full && mx.isNone && decide (hg = rows.length))) ((rows.drop l).take (hg - l)))
  | .st sz' rows _ _ => sz' = sz ∧ bnd lo 0 l ∧ bnd hi rows.length hg ∧ bnd mx rows.length m ∧ l ≤ hg ∧ hg ≤ m ∧ m ≤ rows.length ∧ a = .d (.sl sz (mx.isSome && decide (m = hg)) ((rows.drop l).take (hg - l)))
  | .hs s g off len sz' => sz' = sz ∧ bnd lo 0 l ∧ bnd hi len hg ∧ bnd mx len m ∧ l ≤ hg ∧ hg ≤ m ∧ m ≤ len ∧ a = .hs s g (off + l * sz) (hg - l) sz
  | _ => False
theorem bndOf_some {ρ : Operand → AV} {x : Option Operand} {o : Option Int} (e : bndOf ρ x = some o) : o.isSome = x.isSome := by
  cases x with
  | none => simp only [bndOf, Option.some.injEq] at e; subst e; rfl
  | some x =>
    simp only [bndOf] at e
    split at e
    · simp only [Option.some.injEq] at e; subst e; rfl
    · cases e
theorem cutOf_op {C : Ctx} {fn : FuncId} {o : Oper} {ρ : Operand → AV} {h : H} {sz : Nat} {x : AV} {lo hi mx : Option Int} {l hg m : Nat} {a : AV} (e : cutOf C o ρ = some (sz, x, lo, hi, mx)) (hp : cutGoal sz x lo hi mx l hg m a) :
    opFun C fn o ρ h = some (a, h) := by
  unfold cutOf at e
  split at e
  · rename_i t x' lo' hi' mx' hop
    split at e
    · rename_i elem ht
      split at e
      · rename_i sz1 l1 h1 m1 es e1 e2 e3
        split at e
        · cases e
        · rename_i hmx
          simp only [Option.some.injEq, Prod.mk.injEq] at e
          obtain ⟨rfl, rfl, rfl, rfl, rfl⟩ := e
          have hc4 : mx'.isSome = true → hi'.isSome = true := by cases mx' <;> cases hi' <;> simp_all
          have em := bndOf_some e3
          have en : m1.isNone = mx'.isNone := by cases m1 <;> cases mx' <;> simp_all
          unfold cutGoal at hp
          split at hp
          · rename_i sz' full rows hx
            obtain ⟨rfl, b1, b2, b3, c1, c2, c3, rfl⟩ := hp
            have g1 := boundA_of e1 b1
            have g2 := boundA_of e2 b2
            have g3 := boundA_of e3 b3
            simp only [opFun, hop, sliceOp, ht, hx, lenA, g1, g2, g3, es]
            rw [if_pos ⟨c1, c2, c3, hc4⟩]
            simp [em, en]
          · rename_i sz' rows s g hx
            obtain ⟨rfl, b1, b2, b3, c1, c2, c3, rfl⟩ := hp
            have g1 := boundA_of e1 b1
            have g2 := boundA_of e2 b2
            have g3 := boundA_of e3 b3
            simp only [opFun, hop, sliceOp, ht, hx, lenA, g1, g2, g3, es]
            rw [if_pos ⟨c1, c2, c3, hc4⟩]
            simp [em]
          · rename_i s g off len sz' hx
            obtain ⟨rfl, b1, b2, b3, c1, c2, c3, rfl⟩ := hp
            have g1 := boundA_of e1 b1
            have g2 := boundA_of e2 b2
            have g3 := boundA_of e3 b3
            simp only [opFun, hop, sliceOp, ht, hx, lenA, g1, g2, g3, es]
            rw [if_pos ⟨c1, c2, c3, hc4⟩]
            simp
          · exact hp.elim
      · cases e
    · cases e
  · cases e

/-- the parts of a look into a map -/
def lookOf (o : Oper) (ρ : Operand → AV) (h : H) : Option (TypeId × List (Value × Bool × List DV) × AV × Bool) :=
  match o.op with
  | .lookup t m k ok => match mapEs h (ρ m) with
    | some es => some (t, es, ρ k, ok)
    | none => none
  | _ => none
theorem lookOf_op {C : Ctx} {fn : FuncId} {o : Oper} {ρ : Operand → AV} {h : H} {t : TypeId} {es : List (Value × Bool × List DV)} {k a : AV} {ok : Bool} (e : lookOf o ρ h = some (t, es, k, ok)) (hp : lookupIn C t es k ok = some a) : opFun C fn o ρ h = some (a, h) := by
  unfold lookOf at e
  split at e
  · rename_i t' m k' ok' hop
    split at e
    · rename_i es' hes
      simp only [Option.some.injEq, Prod.mk.injEq] at e
      obtain ⟨rfl, rfl, rfl, rfl⟩ := e
      simp only [opFun, hop, hes, hp]
    · cases e
  · cases e
/-- a map's entries behind an update -/
def updEs (C : Ctx) (t : TypeId) (es : List (Value × Bool × List DV)) (k x : AV) : Option (List (Value × Bool × List DV)) :=
  match C.P.underlying t, toV k, allSome cellD (cellsA x) with
  | some (.map kt _), some kv, some ds => match still C.P (Instr.checkKey false 10000 kt kv), keyAt C kt kv es with
    | some _, some none => some (es ++ [(kv, isAggA x, ds)])
    | some _, some (some (i, _)) => match es[i]? with
      | some e => if Instr.sameBits 10000 e.1 kv then some (es.set i (kv, isAggA x, ds)) else none
      | none => none
    | _, _ => none
  | _, _, _ => none
theorem updEs_op {C : Ctx} {t : TypeId} {es es' : List (Value × Bool × List DV)} {s g : Nat} {k x : AV} {h : H} (hg : h.get s g = some (.map es false)) (hp : updEs C t es k x = some es') : updateOp C t (.mp s g) k x h = some (h.set s g (.map es' false)) := by
  unfold updEs at hp
  split at hp
  · rename_i kt et kv ds e1 e2 e3
    simp only [updateOp, e1, e2, e3, hg]
    split at hp
    · rename_i u q1 q2
      simp only [Option.some.injEq] at hp
      subst hp
      simp only [q1, q2]
    · rename_i u i ds' q1 q2
      simp only [q1, q2]
      split at hp
      · rename_i e q3
        split at hp
        · rename_i q4
          simp only [Option.some.injEq] at hp
          subst hp
          simp only [q3, q4, if_true]
        · cases hp
      · cases hp
    · cases hp
  · cases hp
def updOf (o : Oper) (ρ : Operand → AV) (h : H) : Option (TypeId × Nat × Nat × List (Value × Bool × List DV) × AV × AV) :=
  match o.op with
  | .mapUpdate t m k x => match ρ m with
    | .mp s g => match h.get s g with
      | some (.map es false) => some (t, s, g, es, ρ k, ρ x)
      | _ => none
    | _ => none
  | _ => none
theorem updOf_op {C : Ctx} {fn : FuncId} {o : Oper} {ρ : Operand → AV} {h : H} {t : TypeId} {s g : Nat} {es es' : List (Value × Bool × List DV)} {k x : AV} (e : updOf o ρ h = some (t, s, g, es, k, x)) (hp : updEs C t es k x = some es') :
    opFun C fn o ρ h = some (undefA, h.set s g (.map es' false)) := by
  unfold updOf at e
  split at e
  · rename_i t' m k' x' hop
    split at e
    · rename_i s' g' hm
      split at e
      · rename_i es0 hg
        simp only [Option.some.injEq, Prod.mk.injEq] at e
        obtain ⟨rfl, rfl, rfl, rfl, rfl, rfl⟩ := e
        simp only [opFun, hop, hm, updEs_op hg hp]
      · cases e
    · cases e
  · cases e

/-- the entry that an iterator stands at -/
def entOf (o : Oper) (ρ : Operand → AV) (h : H) : Option (List (Value × Bool × List DV) × Nat) :=
  match o.op with
  | .entry it => match ρ it with
    | .ptr s g 0 => match h.get s g with
      | some (.iter es (i :: _)) => some (es, i)
      | _ => none
    | _ => none
  | _ => none
theorem entOf_op {C : Ctx} {fn : FuncId} {o : Oper} {ρ : Operand → AV} {h : H} {es : List (Value × Bool × List DV)} {i : Nat} {a : AV} (e : entOf o ρ h = some (es, i)) (hp : entryA es i = some a) : opFun C fn o ρ h = some (a, h) := by
  unfold entOf at e
  split at e
  · rename_i it hop
    split at e
    · rename_i s g hx
      split at e
      · rename_i es' i' sn hg
        simp only [Option.some.injEq, Prod.mk.injEq] at e
        obtain ⟨rfl, rfl⟩ := e
        simp only [opFun, hop, hx, hg, hp]
      · cases e
    · cases e
  · cases e

/-- a load from an object of the heap -/
def loadAt (C : Ctx) (o : Oper) (ρ : Operand → AV) (h : H) : Option (TypeId × List AV × Nat) :=
  match o.op with
  | .load t a => match ρ a with
    | .ptr s g off => match h.get s g with
      | some (.cells cs _) => some (t, cs, off)
      | _ => none
    | _ => none
  | _ => none
theorem loadAt_op {C : Ctx} {fn : FuncId} {o : Oper} {ρ : Operand → AV} {h : H} {t : TypeId} {cs : List AV} {off : Nat} {a : AV} (e : loadAt C o ρ h = some (t, cs, off)) (hp : asCells C t cs off = some a) : opFun C fn o ρ h = some (a, h) := by
  unfold loadAt at e
  split at e
  · rename_i t' x hop
    split at e
    · rename_i s g off' hx
      split at e
      · rename_i cs' fz hg
        simp only [Option.some.injEq, Prod.mk.injEq] at e
        obtain ⟨rfl, rfl, rfl⟩ := e
        simp only [opFun, hop, hx, loadOp, hg, hp]
      · cases e
    · cases e
  · cases e
/-- a store into an object of the heap -/
def stoEq (C : Ctx) (t : TypeId) (cs : List AV) (off : Nat) (x : AV) (cs' : List AV) : Prop :=
  ∃ n, sizeT C t = some n ∧ (cellsA x).length = n ∧ off + n ≤ cs.length ∧ (cellsA x).all isCell = true ∧ cs' = putCells cs off (cellsA x)
def storeAt (o : Oper) (ρ : Operand → AV) (h : H) : Option (TypeId × Nat × Nat × List AV × Nat × AV) :=
  match o.op with
  | .store t a x => match ρ a with
    | .ptr s g off => match h.get s g with
      | some (.cells cs false) => some (t, s, g, cs, off, ρ x)
      | _ => none
    | _ => none
  | _ => none
theorem storeAt_op {C : Ctx} {fn : FuncId} {o : Oper} {ρ : Operand → AV} {h : H} {t : TypeId} {s g off : Nat} {cs cs' : List AV} {x : AV} (e : storeAt o ρ h = some (t, s, g, cs, off, x)) (hp : stoEq C t cs off x cs') :
    opFun C fn o ρ h = some (undefA, h.set s g (.cells cs' false)) := by
  unfold storeAt at e
  split at e
  · rename_i t' a' x' hop
    split at e
    · rename_i s' g' off' hx
      split at e
      · rename_i cs0 hg
        simp only [Option.some.injEq, Prod.mk.injEq] at e
        obtain ⟨rfl, rfl, rfl, rfl, rfl, rfl⟩ := e
        obtain ⟨n, q1, q2, q3, q4, rfl⟩ := hp
        simp only [opFun, hop, hx, storeOp, hg, q1]
        rw [if_pos ⟨q2, q3, q4⟩]
      · cases e
    · cases e
  · cases e

/-- clear of a slice of an object -/
def clrOf (C : Ctx) (o : Oper) (ρ : Operand → AV) (h : H) : Option (TypeId × Nat × Nat × Nat × Nat × Nat × List AV) :=
  match o.op with
  | .call { callee := .builtin .clear, args := args, argTypes := ats } => match args.toList, ats.toList with
    | [x], [t] => match C.P.underlying t with
      | some (.slice elem) => match ρ x with
        | .hs s g off len sz => match h.get s g with
          | some (.cells cs false) => some (elem, s, g, off, len, sz, cs)
          | _ => none
        | _ => none
      | _ => none
    | _, _ => none
  | _ => none
def clrEq (C : Ctx) (elem : TypeId) (off len sz : Nat) (cs cs' : List AV) : Prop :=
  0 < len ∧ ∃ z, zeroT C elem = some z ∧ z.cells.size = sz ∧ off + len * sz ≤ cs.length ∧ z.cells.all one = true ∧ cs' = putCells cs off ((List.replicate len (z.cells.toList.map fun c => AV.d (.v c))).flatten)
theorem clrOf_op {C : Ctx} {fn : FuncId} {o : Oper} {ρ : Operand → AV} {h : H} {elem : TypeId} {s g off len sz : Nat} {cs : List AV} (e : clrOf C o ρ h = some (elem, s, g, off, len, sz, cs)) :
    (len = 0 → opFun C fn o ρ h = some (.d (.v (.tuple #[])), h)) ∧ ∀ cs', clrEq C elem off len sz cs cs' → opFun C fn o ρ h = some (.d (.v (.tuple #[])), h.set s g (.cells cs' false)) := by
  unfold clrOf at e
  split at e
  · rename_i args ats hop
    split at e
    · rename_i x t ha hts
      split at e
      · rename_i elem' ht
        split at e
        · rename_i s' g' off' len' sz' hx
          split at e
          · rename_i cs0 hg
            simp only [Option.some.injEq, Prod.mk.injEq] at e
            obtain ⟨rfl, rfl, rfl, rfl, rfl, rfl, rfl⟩ := e
            refine ⟨fun h0 => ?_, fun cs' hp => ?_⟩
            · subst h0
              simp [opFun, hop, ha, hts, ht, hx, clearOp]
            · obtain ⟨h0, z, q1, q2, q3, q4, rfl⟩ := hp
              simp only [opFun, hop, ha, hts, ht, hx, clearOp, hg, q1]
              rw [if_neg (by omega), if_pos ⟨q2, q3, q4⟩]
          · cases e
        · cases e
      · cases e
    · cases e
  · cases e

/-- an operation on two numbers, whatever they are -/
def ariOf (C : Ctx) (o : Oper) (ρ : Operand → AV) (k : IntKind) (n : Int) : Option Prop :=
  match o.op with
  | .binOp op ty x y _ => match ρ x, ρ y with
    | .d (.v (.int k1 a)), .d (.v (.int k2 b)) => some (still C.P (binOp op ty (.int k1 a) (.int k2 b)) = some (.int k n))
    | _, _ => none
  | _ => none
theorem ariOf_op {C : Ctx} {fn : FuncId} {o : Oper} {ρ : Operand → AV} {h : H} {k : IntKind} {n : Int} {p : Prop} (e : ariOf C o ρ k n = some p) (hp : p) : opFun C fn o ρ h = some (.d (.v (.int k n)), h) := by
  unfold ariOf at e
  split at e
  · rename_i op ty x y yt hop
    split at e
    · rename_i k1 a k2 b hx hy
      simp only [Option.some.injEq] at e
      subst e
      have hx' : toV (ρ x) = some (.int k1 a) := by rw [hx]; rfl
      have hy' : toV (ρ y) = some (.int k2 b) := by rw [hy]; rfl
      have key : plainOp C o ρ = some (.d (.v (.int k n))) := by
        unfold plainOp
        have hall : (o.op.operands.toList.all fun x => (toV (ρ x)).isSome) = true := by simp [hop, Op.operands, hx', hy']
        rw [if_pos hall]
        have he : still C.P (execOp (fun x => (toV (ρ x)).getD undef) o) = some (.value (.int k n)) := by
          have hg : still C.P (eqGuard op ty x y (.int k1 a) (.int k2 b)) = some () := by
            unfold eqGuard
            cases op <;> rfl
          simp only [execOp, hop, hx', hy', Option.getD_some]
          simp only [still_bind', hg, hp, Option.bind_some]
          rfl
        rw [he]
        rfl
      simp [opFun, hop, key]
    · cases e
  · cases e

/-- slots by their numbers; the others are forgotten -/
def slotAt (i : Nat) : List (Nat × AV) → AV
  | [] => .top
  | (j, a) :: r => if j = i then a else slotAt i r
/-- the parts of a copy into an object -/
def cpyOf (C : Ctx) (o : Oper) (ρ : Operand → AV) : Option (TypeId × Nat × Nat × Nat × Nat × Nat × AV) :=
  match o.op with
  | .call { callee := .builtin .copy, args := args, argTypes := ats } => match args.toList, ats.toList with
    | [d, x], [t, u] => match C.P.underlying t, C.P.underlying u, ρ d with
      | some (.slice elem), some (.slice _), .hs s g off len sz => some (elem, s, g, off, len, sz, ρ x)
      | _, _, _ => none
    | _, _ => none
  | _ => none
theorem cpyOf_op {C : Ctx} {fn : FuncId} {o : Oper} {ρ : Operand → AV} {h h' : H} {elem : TypeId} {s g off len sz : Nat} {x a : AV} (e : cpyOf C o ρ = some (elem, s, g, off, len, sz, x)) (hp : copyOp C elem s g off len sz x h = some (a, h')) :
    opFun C fn o ρ h = some (a, h') := by
  unfold cpyOf at e
  split at e
  · rename_i args ats hop
    split at e
    · rename_i d y t u ha hts
      split at e
      · rename_i el eu s' g' off' len' sz' ht hu hd
        simp only [Option.some.injEq, Prod.mk.injEq] at e
        obtain ⟨rfl, rfl, rfl, rfl, rfl, rfl, rfl⟩ := e
        simp only [opFun, hop, ha, hts, ht, hu, hd, hp]
      · cases e
    · cases e
  · cases e
/-- a slice that is made: its cells -/
def mksOf (C : Ctx) (fn : FuncId) (o : Oper) (ρ : Operand → AV) (h : H) (k : Nat) : Option (AV × H × Prop) :=
  match o.op with
  | .makeSlice t l c => match C.P.underlying t, intOfA (ρ l), intOfA (ρ c) with
    | some (.slice elem), some li, some ci => match sizeT C elem, bytesT C elem, zeroT C elem with
      | some n, some by_, some z => some (.hs (siteOf fn o.dst) (h.count (siteOf fn o.dst)) 0 k n,
          h.push (siteOf fn o.dst) (.cells ((List.replicate k (z.cells.toList.map fun c => AV.d (.v c))).flatten) false),
          li = k ∧ ci = k ∧ k * by_ ≤ 2 ^ 40 ∧ k ≤ 2 ^ 40 ∧ 0 < n ∧ z.cells.size = n)
      | _, _, _ => none
    | _, _, _ => none
  | _ => none
theorem mksOf_op {C : Ctx} {fn : FuncId} {o : Oper} {ρ : Operand → AV} {h h' : H} {k : Nat} {a : AV} {p : Prop} (e : mksOf C fn o ρ h k = some (a, h', p)) (hp : p) : opFun C fn o ρ h = some (a, h') := by
  unfold mksOf at e
  split at e
  · rename_i t l c hop
    split at e
    · rename_i elem li ci ht hl hc
      split at e
      · rename_i n by_ z e1 e2 e3
        simp only [Option.some.injEq, Prod.mk.injEq] at e
        obtain ⟨rfl, rfl, rfl⟩ := e
        obtain ⟨rfl, rfl, p1, p2, p3, p4⟩ := hp
        simp only [opFun, hop, ht, hl, hc, e1, e2, e3]
        have q1 : (0 : Int) ≤ (k : Int) := by omega
        rw [if_pos ⟨q1, trivial, by exact_mod_cast p1, by exact_mod_cast p2, p3, p4⟩]
        simp
      · cases e
    · cases e
  · cases e
def slots (n : Nat) (l : List (Nat × AV)) : List AV := (List.range n).map fun i => slotAt i l

/-- what a script says of an operation's result, and what is to be shown for it -/
def decOp (C : Ctx) (fn : FuncId) (o : Oper) (ρ : Operand → AV) (h : H) : Dec → Option (AV × H × Prop)
  | .b t => match opFun C fn o ρ h with
    | some (.d (.v (.bool b)), h') => some (.d (.v (.bool t)), h', b = t)
    | _ => none
  | .int n => match opFun C fn o ρ h with
    | some (.d (.v (.int k e)), h') => some (.d (.v (.int k n)), h', e = n)
    | _ => none
  | .row r => match rowAddr C o ρ with
    | some (rows, i) => some (.pin r 0, h, 0 ≤ i ∧ rows[i.toNat]? = some r)
    | none => none
  | .idx n => match idxAddr C o ρ n with
    | some (a, len, i) => some (a, h, i = n ∧ n < len)
    | none => none
  | .res a h' => some (a, h', opFun C fn o ρ h = some (a, h'))
  | .prim rs => match primOf C o ρ h with
    | some (spec, ps, h1) => some (ofPVs rs, if scalarR rs then h else h1, spec ps = some rs)
    | none => none
  | .primA ps rs => match primArgs C o ρ with
    | some (spec, as) => some (ofPVs rs, h, freezeAll h as = some (ps, h) ∧ spec ps = some rs)
    | none => none
  | .eqv t => match eqvOf C o ρ t with
    | some (b, p) => some (.d (.v (.bool b)), h, p)
    | none => none
  | .ari k n => match ariOf C o ρ k n with
    | some p => some (.d (.v (.int k n)), h, p)
    | none => none
  | .cpy a h' => match cpyOf C o ρ with
    | some (elem, s, g, off, len, sz, x) => some (a, h', copyOp C elem s g off len sz x h = some (a, h'))
    | none => none
  | .mks k => mksOf C fn o ρ h k
  | .look a => match lookOf o ρ h with
    | some (t, es, k, ok) => some (a, h, lookupIn C t es k ok = some a)
    | none => none
  | .upd es' => match updOf o ρ h with
    | some (t, s, g, es, k, x) => some (undefA, h.set s g (.map es' false), updEs C t es k x = some es')
    | none => none
  | .ent a => match entOf o ρ h with
    | some (es, i) => some (a, h, entryA es i = some a)
    | none => none
  | .ld a => match loadAt C o ρ h with
    | some (t, cs, off) => some (a, h, asCells C t cs off = some a)
    | none => none
  | .sto cs' => match storeAt o ρ h with
    | some (t, s, g, cs, off, x) => some (undefA, h.set s g (.cells cs' false), stoEq C t cs off x cs')
    | none => none
  | .clr z cs' => match clrOf C o ρ h with
    | some (elem, s, g, off, len, sz, cs) => if z then some (.d (.v (.tuple #[])), h, len = 0) else some (.d (.v (.tuple #[])), h.set s g (.cells cs' false), clrEq C elem off len sz cs cs')
    | none => none
  | .app e => appOf C fn o ρ h e
  | .cut l hg m a => match cutOf C o ρ with
    | some (sz, x, lo, hi, mx) => some (a, h, cutGoal sz x lo hi mx l hg m a)
    | none => none
  | _ => none
theorem decOp_op {C : Ctx} {fn : FuncId} {o : Oper} {ρ : Operand → AV} {h h' : H} {d : Dec} {a : AV} {p : Prop} (e : decOp C fn o ρ h d = some (a, h', p)) (hp : p) : opFun C fn o ρ h = some (a, h') := by
  cases d with
  | b t =>
    simp only [decOp] at e
    split at e
    · rename_i b h2 eo
      simp only [Option.some.injEq, Prod.mk.injEq] at e
      obtain ⟨rfl, rfl, rfl⟩ := e
      rw [eo, hp]
    · cases e
  | int n =>
    simp only [decOp] at e
    split at e
    · rename_i k b h2 eo
      simp only [Option.some.injEq, Prod.mk.injEq] at e
      obtain ⟨rfl, rfl, rfl⟩ := e
      rw [eo, hp]
    · cases e
  | row r =>
    simp only [decOp] at e
    split at e
    · rename_i rows i eo
      simp only [Option.some.injEq, Prod.mk.injEq] at e
      obtain ⟨rfl, rfl, rfl⟩ := e
      exact rowAddr_op eo hp.1 hp.2
    · cases e
  | idx n =>
    simp only [decOp] at e
    split at e
    · rename_i a' len i eo
      simp only [Option.some.injEq, Prod.mk.injEq] at e
      obtain ⟨rfl, rfl, rfl⟩ := e
      exact idxAddr_op eo hp.1 hp.2
    · cases e
  | res a' h2 =>
    simp only [decOp, Option.some.injEq, Prod.mk.injEq] at e
    obtain ⟨rfl, rfl, rfl⟩ := e
    exact hp
  | prim rs =>
    simp only [decOp] at e
    split at e
    · rename_i spec ps h1 eo
      simp only [Option.some.injEq, Prod.mk.injEq] at e
      obtain ⟨rfl, rfl, rfl⟩ := e
      exact primOf_op eo hp
    · cases e
  | primA ps rs =>
    simp only [decOp] at e
    split at e
    · rename_i spec as ea
      simp only [Option.some.injEq, Prod.mk.injEq] at e
      obtain ⟨rfl, rfl, rfl⟩ := e
      have := primArgs_op (fn := fn) ea hp.1 hp.2
      rw [this]
      split <;> rfl
    · cases e
  | eqv t =>
    simp only [decOp] at e
    split at e
    · rename_i b p1 eo
      simp only [Option.some.injEq, Prod.mk.injEq] at e
      obtain ⟨rfl, rfl, rfl⟩ := e
      exact eqvOf_op eo hp
    · cases e
  | ari k n =>
    simp only [decOp] at e
    split at e
    · rename_i p1 eo
      simp only [Option.some.injEq, Prod.mk.injEq] at e
      obtain ⟨rfl, rfl, rfl⟩ := e
      exact ariOf_op eo hp
    · cases e
  | cpy a' h2 =>
    simp only [decOp] at e
    split at e
    · rename_i elem s g off len sz x eo
      simp only [Option.some.injEq, Prod.mk.injEq] at e
      obtain ⟨rfl, rfl, rfl⟩ := e
      exact cpyOf_op eo hp
    · cases e
  | mks k =>
    simp only [decOp] at e
    exact mksOf_op e hp
  | look a' =>
    simp only [decOp] at e
    split at e
    · rename_i t es k ok eo
      simp only [Option.some.injEq, Prod.mk.injEq] at e
      obtain ⟨rfl, rfl, rfl⟩ := e
      exact lookOf_op eo hp
    · cases e
  | upd es' =>
    simp only [decOp] at e
    split at e
    · rename_i t s g es k x eo
      simp only [Option.some.injEq, Prod.mk.injEq] at e
      obtain ⟨rfl, rfl, rfl⟩ := e
      exact updOf_op eo hp
    · cases e
  | ent a' =>
    simp only [decOp] at e
    split at e
    · rename_i es i eo
      simp only [Option.some.injEq, Prod.mk.injEq] at e
      obtain ⟨rfl, rfl, rfl⟩ := e
      exact entOf_op eo hp
    · cases e
  | ld a' =>
    simp only [decOp] at e
    split at e
    · rename_i t cs off eo
      simp only [Option.some.injEq, Prod.mk.injEq] at e
      obtain ⟨rfl, rfl, rfl⟩ := e
      exact loadAt_op eo hp
    · cases e
  | sto cs' =>
    simp only [decOp] at e
    split at e
    · rename_i t s g cs off x eo
      simp only [Option.some.injEq, Prod.mk.injEq] at e
      obtain ⟨rfl, rfl, rfl⟩ := e
      exact storeAt_op eo hp
    · cases e
  | clr z cs' =>
    simp only [decOp] at e
    split at e
    · rename_i elem s g off len sz cs eo
      obtain ⟨k1, k2⟩ := clrOf_op (fn := fn) eo
      split at e
      · simp only [Option.some.injEq, Prod.mk.injEq] at e
        obtain ⟨rfl, rfl, rfl⟩ := e
        exact k1 hp
      · simp only [Option.some.injEq, Prod.mk.injEq] at e
        obtain ⟨rfl, rfl, rfl⟩ := e
        exact k2 _ hp
    · cases e
  | app em => exact appOf_op e hp
  | cut l hg m a' =>
    simp only [decOp] at e
    split at e
    · rename_i sz x lo hi mx eo
      simp only [Option.some.injEq, Prod.mk.injEq] at e
      obtain ⟨rfl, rfl, rfl⟩ := e
      exact cutOf_op eo hp
    · cases e
  | drop => cases e
  | trunc => cases e
  | rng => cases e
  | frz => cases e
  | val => cases e
  | loop => cases e
  | call => cases e

/-- the head of the script, if it is meant for this slot -/
def headOf (slot : Nat) : Script → Option (Dec × Script)
  | (sl, d) :: rest => if sl == slot then some (d, rest) else none
  | [] => none

abbrev SM (α : Type) := Option (α × Script × List Prop)
abbrev RecS := Task → Script → SM Res
def sCode (rec : RecS) (fn : FuncId) (rd : Bool) (c : Code) (s : St) (sc : Script) : SM (X × St) :=
  match rec (.code fn rd c s) sc with
  | some (.code x s', sc', ob) => some ((x, s'), sc', ob)
  | _ => none
def sOps (rec : RecS) (fn : FuncId) (ops : Array Oper) (l : List Nat) (s : St) (sc : Script) : SM St :=
  match rec (.ops fn ops l s) sc with
  | some (.ops s', sc', ob) => some (s', sc', ob)
  | _ => none
def sDraws (rec : RecS) (fn : FuncId) (ops : Array Oper) (l : List Nat) (s : St) (sc : Script) : SM St :=
  match rec (.draws fn ops l s) sc with
  | some (.ops s', sc', ob) => some (s', sc', ob)
  | _ => none
def sVal (rec : RecS) (t : Task) (sc : Script) : SM (AV × H) :=
  match rec t sc with
  | some (.val a h, sc', ob) => some ((a, h), sc', ob)
  | _ => none

variable (C : Ctx) (O : Task → Res → Prop)

/-- one operation -/
def symStep (dr : Bool) (fn : FuncId) (ops : Array Oper) (i : Nat) (s : St) (sc : Script) : SM St :=
  match ops[i]? with
  | none => some (s, sc, [])
  | some o =>
    if gknown ops s.σ o then
      if wantedA ops s.σ o then
        if !dr || byVal C fn ops s.σ o then
          match headOf (siteOf fn o.dst) sc with
          | some (d, sc') => match decOp C fn o (evalA s.σ) s.h d with
            | some (a, h, p) => some (s.put o.dst a h, sc', [p])
            | none => match opFun C fn o (evalA s.σ) s.h with
              | some (a, h) => some (s.put o.dst a h, sc, [])
              | none => none
          | none => match opFun C fn o (evalA s.σ) s.h with
            | some (a, h) => some (s.put o.dst a h, sc, [])
            | none => none
        else none
      else some (s.put o.dst undefA s.h, sc, [])
    else none

/-- one operation that is walked into -/
def symCall (rec : RecS) (fn : FuncId) (ops : Array Oper) (i : Nat) (s : St) (sc : Script) : SM St :=
  match ops[i]? with
  | some o =>
    if wantA ops s.σ o then
      match o.op with
      | .call c => match c.callee with
        | .value f => match calleeA (evalA s.σ f) with
          | some (.fn (.func g), first, cap) =>
            if hasBody C g then
              match headOf (siteOf fn o.dst) sc with
              | some (.call a h1, sc') => some (s.put o.dst a h1, sc', [Ev C O (.call g (first ++ c.args.toList.map (evalA s.σ) ++ cap) s.h) (.val a h1)])
              | _ => match sVal rec (.call g (first ++ c.args.toList.map (evalA s.σ) ++ cap) s.h) sc with
                | some ((a, h1), sc', ob) => some (s.put o.dst a h1, sc', ob)
                | none => none
            else none
          | some (.yield ys yg, [], []) =>
            match headOf (siteOf fn o.dst) sc with
            | some (.call a h1, sc') => some (s.put o.dst a h1, sc', [Ev C O (.yld ys yg (c.args.toList.map (evalA s.σ)) s.h) (.val a h1)])
            | _ => match sVal rec (.yld ys yg (c.args.toList.map (evalA s.σ)) s.h) sc with
              | some ((a, h1), sc', ob) => some (s.put o.dst a h1, sc', ob)
              | none => none
          | _ => none
        | .invoke rv m => match methA C (evalA s.σ rv) m with
          | some (g, recv) =>
            if hasBody C g then
              match headOf (siteOf fn o.dst) sc with
              | some (.call a h1, sc') => some (s.put o.dst a h1, sc', [Ev C O (.call g ([recv] ++ c.args.toList.map (evalA s.σ)) s.h) (.val a h1)])
              | _ => match sVal rec (.call g ([recv] ++ c.args.toList.map (evalA s.σ)) s.h) sc with
                | some ((a, h1), sc', ob) => some (s.put o.dst a h1, sc', ob)
                | none => none
            else none
          | none => none
        | _ => none
      | _ => none
    else none
  | none => none

/-- a call that leaves all objects as they stand: that is to be shown -/
def addKept (h : H) : SM St → SM St
  | some (s1, sc1, ob) => some (s1, sc1, ob ++ [AllKept h s1.h])
  | none => none
def symRun (rec : RecS) : RecS
  | .code fn rd c s, sc => match c with
    | .skip => some (.code .normal s, sc, [])
    | .label _ => some (.code .normal s, sc, [])
    | .region _ ops draws =>
      if draws then
        if drawOK C fn ops then
          match sDraws rec fn ops (List.range ops.size) s sc with
          | some (s', sc', ob) => some (.code .normal s', sc', ob)
          | none => none
        else none
      else match sOps rec fn ops (List.range ops.size) s sc with
        | some (s', sc', ob) => some (.code .normal s', sc', ob)
        | none => none
    | .seq a b => match sCode rec fn rd a s sc with
      | some ((.normal, s1), sc1, ob1) => match headOf (site fn 8005) sc1 with
        | some (.frz t p h' si g, sc2) => match s1.σ[t]? with
          | some av => match sCode rec fn rd b { σ := s1.σ.set t (ofPV p), h := h'.set si g .dead } sc2 with
            | some ((x, s2), sc3, ob2) => some (.code x s2, sc3, (ob1 ++ [freeze1 s1.h av = some (p, h'), (h'.get si g).isSome = true]) ++ ob2)
            | none => none
          | none => none
        | some (.val t, sc2) => match s1.σ[t]? with
          | some av => match freeze1 s1.h av with
            | some (p, h') => match sCode rec fn rd b { σ := s1.σ.set t (ofPV p), h := h' } sc2 with
              | some ((x, s2), sc3, ob2) => some (.code x s2, sc3, ob1 ++ ob2)
              | none => none
            | none => none
          | none => none
        | _ => match sCode rec fn rd b s1 sc1 with
          | some ((x, s2), sc2, ob2) => some (.code x s2, sc2, ob1 ++ ob2)
          | none => none
      | some ((x, s1), sc1, ob1) => some (.code x s1, sc1, ob1)
      | none => none
    | .cond c a b => match evalA s.σ c with
      | .d (.v (.bool t)) => match sCode rec fn rd (if t then a else b) s sc with
        | some ((x, s1), sc1, ob1) => some (.code x s1, sc1, ob1)
        | none => none
      | _ => none
    | .block id a => match sCode rec fn rd a s sc with
      | some ((x, s1), sc1, ob1) => some (.code (x.inBlock id) s1, sc1, ob1)
      | none => none
    | .loop a => match headOf (site fn 8001) sc with
      | some (.loop keep x s1, sc') => some (.code x s1, sc', [Ev C O (.code fn rd (.loop a) (s.mask keep)) (.code x s1)])
      | _ => match sCode rec fn rd a s sc with
        | some ((.normal, s1), sc1, ob1) => match headOf (site fn 8002) sc1 with
          | some (.drop L keep, sc1') =>
              match sCode rec fn rd (.loop a) { σ := (s1.mask keep).σ, h := (s1.mask keep).h.drop L } sc1' with
              | some ((x, s2), sc2, ob2) => some (.code x s2, sc2, (ob1 ++ [hNone L s.h = true, hFree L (s1.mask keep).h = true, avFreeL L (s1.mask keep).σ = true]) ++ ob2)
              | none => none
          | some (.trunc L keep, sc1') =>
              match sCode rec fn rd (.loop a) { σ := (s1.mask keep).σ, h := (s1.mask keep).h.trunc L } sc1' with
              | some ((x, s2), sc2, ob2) => some (.code x s2, sc2, (ob1 ++ [hKeep L s.h = true, hFreeT L (s1.mask keep).h = true, avFreeTL L (s1.mask keep).σ = true]) ++ ob2)
              | none => none
          | _ => match sCode rec fn rd (.loop a) s1 sc1 with
            | some ((x, s2), sc2, ob2) => some (.code x s2, sc2, ob1 ++ ob2)
            | none => none
        | some ((x, s1), sc1, ob1) => some (.code x s1, sc1, ob1)
        | none => none
    | .exit id => some (.code (.exit id) s, sc, [])
    | .goto l => some (.code (.goto l) s, sc, [])
    | .ret => some (.code .ret s, sc, [])
    | .rangeFunc g ps assign body =>
      if rd then none else
      match headOf (site fn 8003) sc with
      | some (.rng keep a h1, sc0) => match calleeA (evalA (s.mask keep).σ g) with
        | some (.fn (.func f), first, cap) =>
          if hasBody C f then
            match h1.get (loopSite fn) (s.h.count (loopSite fn)) with
            | some (.loop st pend lf ls lp la lb) =>
              if isBusy st then none else
              match pend with
              | none => some (.code .normal { σ := (s.mask keep).σ, h := h1.set (loopSite fn) (s.h.count (loopSite fn)) (.loop .exhausted none lf ls lp la lb) }, sc0,
                  [Ev C O (.call f (first ++ [.fn (.yield (loopSite fn) (s.h.count (loopSite fn))) [] []] ++ cap) (s.h.push (loopSite fn) (.loop .ready none fn (s.mask keep).σ ps.toList assign body))) (.val a h1)])
              | some p => match sCode rec fn false p { σ := (s.mask keep).σ, h := h1.set (loopSite fn) (s.h.count (loopSite fn)) (.loop .exhausted (some p) lf ls lp la lb) } sc0 with
                | some ((x, s2), sc2, ob2) => some (.code x s2, sc2, [Ev C O (.call f (first ++ [.fn (.yield (loopSite fn) (s.h.count (loopSite fn))) [] []] ++ cap) (s.h.push (loopSite fn) (.loop .ready none fn (s.mask keep).σ ps.toList assign body))) (.val a h1)] ++ ob2)
                | none => none
            | _ => none
          else none
        | _ => none
      | _ => match calleeA (evalA s.σ g) with
      | some (.fn (.func f), first, cap) =>
        if hasBody C f then
          match sVal rec (.call f (first ++ [.fn (.yield (loopSite fn) (s.h.count (loopSite fn))) [] []] ++ cap) (s.h.push (loopSite fn) (.loop .ready none fn s.σ ps.toList assign body))) sc with
          | some ((_, h1), sc1, ob1) => match h1.get (loopSite fn) (s.h.count (loopSite fn)) with
            | some (.loop st pend lf ls lp la lb) =>
              if isBusy st then none else
              match pend with
              | none => some (.code .normal { σ := s.σ, h := h1.set (loopSite fn) (s.h.count (loopSite fn)) (.loop .exhausted none lf ls lp la lb) }, sc1, ob1)
              | some p => match sCode rec fn false p { σ := s.σ, h := h1.set (loopSite fn) (s.h.count (loopSite fn)) (.loop .exhausted (some p) lf ls lp la lb) } sc1 with
                | some ((x, s2), sc2, ob2) => some (.code x s2, sc2, ob1 ++ ob2)
                | none => none
            | _ => none
          | none => none
        else none
      | _ => none
    | _ => none
  | .ops fn ops l s, sc => match l with
    | [] => some (.ops s, sc, [])
    | i :: r => match (match symStep C false fn ops i s sc with | some y => some y | none => symCall C O rec fn ops i s sc) with
      | some (s1, sc1, ob1) => match sOps rec fn ops r s1 sc1 with
        | some (s2, sc2, ob2) => some (.ops s2, sc2, ob1 ++ ob2)
        | none => none
      | none => none
  | .draws fn ops l s, sc => match l with
    | [] => some (.ops s, sc, [])
    | i :: r => match (match symStep C true fn ops i s sc with | some y => some y | none => if ((ops[i]?).map fun o => cls C fn o == 3).getD false then symCall C O rec fn ops i s sc else if ((ops[i]?).map fun o => cls C fn o == 6).getD false then addKept s.h (symCall C O rec fn ops i s sc) else none) with
      | some (s1, sc1, ob1) => match sDraws rec fn ops r s1 sc1 with
        | some (s2, sc2, ob2) => some (.ops s2, sc2, ob1 ++ ob2)
        | none => none
      | none => none
  | .call f args h, sc => match C.P.funcs[f]? with
    | some fd => match fd.body with
      | some c => match splitD c with
        | none => match sCode rec f false c { σ := args ++ List.replicate (fd.ntmps - args.length) undefA, h := h } sc with
          | some ((.normal, s), sc1, ob1) | some ((.ret, s), sc1, ob1) => match resultsA C fd s with
            | some a => some (.val a s.h, sc1, ob1)
            | none => none
          | _ => none
        | some (c0, id, ops, o, cal, fop, c2) => match sCode rec f false c0 { σ := args ++ List.replicate (fd.ntmps - args.length) undefA, h := h } sc with
          | some ((.normal, s0), sc1, ob1) => match sOps rec f ops (List.range (ops.size - 1)) s0 sc1 with
            | some (s1, sc2, ob2) => match calleeA (evalA s1.σ fop) with
              | some (.fn (.func g), first, cap) =>
                if C.quiet g && hasBody C g then
                  match sCode rec f false c2 (s1.put o.dst undefA s1.h) sc2 with
                  | some ((.normal, s), sc3, ob3) | some ((.ret, s), sc3, ob3) => match resultsA C fd s with
                    | some a => some (.val a s.h, sc3, ob1 ++ ob2 ++ ob3)
                    | none => none
                  | _ => none
                else none
              | _ => none
            | none => none
          | _ => none
      | none => none
    | none => none
  | .yld ys yg args h, sc => match h.get ys yg with
    | some (.loop .ready pend fn slots ps assign body) =>
      if args.length = ps.length then
        match sCode rec fn true assign { σ := setAll slots ps args, h := h } sc with
        | some ((.normal, s1), sc1, ob1) => match s1.h.get ys yg with
          | some (.loop .ready p1 f1 l1 q1 a1 b1) =>
            match sCode rec fn true body { σ := s1.σ, h := s1.h.set ys yg (.loop .busy p1 f1 l1 q1 a1 b1) } sc1 with
            | some ((x, s2), sc2, ob2) => match s2.h.get ys yg with
              | some (.loop _ _ f2 l2 q2 a2 b2) => some (.val (.d (.v (.bool x.jump.isNone))) (s2.h.set ys yg (.loop (if x.jump.isNone then .ready else .done) x.jump f2 l2 q2 a2 b2)), sc2, ob1 ++ ob2)
              | _ => none
            | none => none
          | _ => none
        | _ => none
      else none
    | _ => none

def sym : Nat → RecS
  | 0 => fun _ _ => none
  | n + 1 => symRun C O (sym n)

variable {C : Ctx} {O : Task → Res → Prop}
def AllP (l : List Prop) : Prop := ∀ p ∈ l, p
theorem AllP.left {a b : List Prop} (h : AllP (a ++ b)) : AllP a := fun p hp => h p (by simp [hp])
theorem AllP.right {a b : List Prop} (h : AllP (a ++ b)) : AllP b := fun p hp => h p (by simp [hp])

def RecOK (C : Ctx) (O : Task → Res → Prop) (rec : RecS) : Prop := ∀ t sc r sc' ob, rec t sc = some (r, sc', ob) → AllP ob → Ev C O t r

theorem sCode_ev {rec : RecS} (hrec : RecOK C O rec) {fn : FuncId} {rd : Bool} {c : Code} {s s' : St} {x : X} {sc sc' : Script} {ob : List Prop} (h : sCode rec fn rd c s sc = some ((x, s'), sc', ob)) (hp : AllP ob) :
    Ev C O (.code fn rd c s) (.code x s') := by
  unfold sCode at h
  split at h
  · rename_i e; simp only [Option.some.injEq, Prod.mk.injEq] at h; obtain ⟨⟨rfl, rfl⟩, rfl, rfl⟩ := h; exact hrec _ _ _ _ _ e hp
  · cases h
theorem sOps_ev {rec : RecS} (hrec : RecOK C O rec) {fn : FuncId} {ops : Array Oper} {l : List Nat} {s s' : St} {sc sc' : Script} {ob : List Prop} (h : sOps rec fn ops l s sc = some (s', sc', ob)) (hp : AllP ob) :
    Ev C O (.ops fn ops l s) (.ops s') := by
  unfold sOps at h
  split at h
  · rename_i e; simp only [Option.some.injEq, Prod.mk.injEq] at h; obtain ⟨rfl, rfl, rfl⟩ := h; exact hrec _ _ _ _ _ e hp
  · cases h
theorem sDraws_ev {rec : RecS} (hrec : RecOK C O rec) {fn : FuncId} {ops : Array Oper} {l : List Nat} {s s' : St} {sc sc' : Script} {ob : List Prop} (h : sDraws rec fn ops l s sc = some (s', sc', ob)) (hp : AllP ob) :
    Ev C O (.draws fn ops l s) (.ops s') := by
  unfold sDraws at h
  split at h
  · rename_i e; simp only [Option.some.injEq, Prod.mk.injEq] at h; obtain ⟨rfl, rfl, rfl⟩ := h; exact hrec _ _ _ _ _ e hp
  · cases h
theorem sVal_ev {rec : RecS} (hrec : RecOK C O rec) {t : Task} {a : AV} {h' : H} {sc sc' : Script} {ob : List Prop} (h : sVal rec t sc = some ((a, h'), sc', ob)) (hp : AllP ob) : Ev C O t (.val a h') := by
  unfold sVal at h
  split at h
  · rename_i e; simp only [Option.some.injEq, Prod.mk.injEq] at h; obtain ⟨⟨rfl, rfl⟩, rfl, rfl⟩ := h; exact hrec _ _ _ _ _ e hp
  · cases h

theorem symStep_ev {dr : Bool} {fn : FuncId} {ops : Array Oper} {i : Nat} {s s1 : St} {sc sc' : Script} {ob : List Prop} (h : symStep C dr fn ops i s sc = some (s1, sc', ob)) (hp : AllP ob) :
    stepF C fn ops i s = some s1 ∧ (dr = true → stepD C fn ops i s = some s1) := by
  have key : stepF C fn ops i s = some s1 ∧ (dr = true → ((ops[i]?).map fun o => !wantedA ops s.σ o || byVal C fn ops s.σ o).getD true = true) := by
    unfold symStep at h
    unfold stepF
    cases ho : ops[i]? with
    | none =>
      simp only [ho, Option.some.injEq, Prod.mk.injEq] at h
      obtain ⟨rfl, _, _⟩ := h
      exact ⟨rfl, fun _ => rfl⟩
    | some o =>
      simp only [ho] at h ⊢
      split at h
      · rename_i hk
        rw [if_pos hk]
        split at h
        · rename_i hw
          rw [if_pos hw]
          split at h
          · rename_i hd
            have hbv : dr = true → (Option.map (fun o => !wantedA ops s.σ o || byVal C fn ops s.σ o) (some o)).getD true = true := by
              intro hdr
              rw [hdr] at hd
              simp only [Bool.not_true, Bool.false_or] at hd
              simp [hd]
            split at h
            · rename_i d sc1 hh
              split at h
              · rename_i a h1 p hdec
                simp only [Option.some.injEq, Prod.mk.injEq] at h
                obtain ⟨rfl, rfl, rfl⟩ := h
                rw [decOp_op hdec (hp _ (by simp))]
                exact ⟨rfl, hbv⟩
              · split at h
                · rename_i a h1 hop
                  simp only [Option.some.injEq, Prod.mk.injEq] at h
                  obtain ⟨rfl, rfl, rfl⟩ := h
                  rw [hop]
                  exact ⟨rfl, hbv⟩
                · cases h
            · split at h
              · rename_i a h1 hop
                simp only [Option.some.injEq, Prod.mk.injEq] at h
                obtain ⟨rfl, rfl, rfl⟩ := h
                rw [hop]
                exact ⟨rfl, hbv⟩
              · cases h
          · cases h
        · rename_i hw
          rw [if_neg hw]
          simp only [Option.some.injEq, Prod.mk.injEq] at h
          obtain ⟨rfl, rfl, rfl⟩ := h
          exact ⟨rfl, fun _ => by simp [hw]⟩
      · cases h
  refine ⟨key.1, fun hdr => ?_⟩
  unfold stepD
  rw [if_pos (key.2 hdr)]
  exact key.1

theorem symCall_ev {rec : RecS} (hrec : RecOK C O rec) {fn : FuncId} {ops : Array Oper} {i : Nat} {s s1 : St} {sc sc' : Script} {ob : List Prop} (h : symCall C O rec fn ops i s sc = some (s1, sc', ob)) (hp : AllP ob) :
    (∀ r s2, Ev C O (.ops fn ops r s1) (.ops s2) → Ev C O (.ops fn ops (i :: r) s) (.ops s2)) ∧
    ((∀ o, ops[i]? = some o → BigC C fn o s.h s1.h) → ∀ r s2, Ev C O (.draws fn ops r s1) (.ops s2) → Ev C O (.draws fn ops (i :: r) s) (.ops s2)) := by
  unfold symCall at h
  split at h
  · rename_i o ho
    split at h
    · rename_i hw
      split at h
      · rename_i c hop
        split at h
        · rename_i f hcal
          split at h
          · rename_i g first cap hg
            split at h
            · rename_i hb
              have done : ∀ a h1, Ev C O (.call g (first ++ c.args.toList.map (evalA s.σ) ++ cap) s.h) (.val a h1) → (∀ r s2, Ev C O (.ops fn ops r (s.put o.dst a h1)) (.ops s2) → Ev C O (.ops fn ops (i :: r) s) (.ops s2)) ∧
                  ((∀ o', ops[i]? = some o' → BigC C fn o' s.h (s.put o.dst a h1).h) → ∀ r s2, Ev C O (.draws fn ops r (s.put o.dst a h1)) (.ops s2) → Ev C O (.draws fn ops (i :: r) s) (.ops s2)) :=
                fun a h1 hv => ⟨fun r s2 h2 => .callOp fn ops i r s s2 o c f g first cap a h1 ho hw hop hcal hg (hasBody_eq hb) hv h2,
                  fun hc r s2 h2 => .dcall fn ops i r s s2 o c f g first cap a h1 ho (by have := hc o ho; rwa [put_h] at this) hw hop hcal hg (hasBody_eq hb) hv h2⟩
              split at h
              · rename_i a h1 sc1 hh
                simp only [Option.some.injEq, Prod.mk.injEq] at h
                obtain ⟨rfl, rfl, rfl⟩ := h
                exact done a h1 (hp _ (by simp))
              · split at h
                · rename_i a h1 sc1 ob1 hv
                  simp only [Option.some.injEq, Prod.mk.injEq] at h
                  obtain ⟨rfl, rfl, rfl⟩ := h
                  exact done a h1 (sVal_ev hrec hv hp)
                · cases h
            · cases h
          · rename_i ys yg hg
            have done : ∀ a h1, Ev C O (.yld ys yg (c.args.toList.map (evalA s.σ)) s.h) (.val a h1) → (∀ r s2, Ev C O (.ops fn ops r (s.put o.dst a h1)) (.ops s2) → Ev C O (.ops fn ops (i :: r) s) (.ops s2)) ∧
                ((∀ o', ops[i]? = some o' → BigC C fn o' s.h (s.put o.dst a h1).h) → ∀ r s2, Ev C O (.draws fn ops r (s.put o.dst a h1)) (.ops s2) → Ev C O (.draws fn ops (i :: r) s) (.ops s2)) :=
              fun a h1 hv => ⟨fun r s2 h2 => .yieldOp fn ops i r s s2 o c f ys yg a h1 ho hw hop hcal hg hv h2,
                fun hc r s2 h2 => .dyield fn ops i r s s2 o c f ys yg a h1 ho (by have := hc o ho; rwa [put_h] at this) hw hop hcal hg hv h2⟩
            split at h
            · rename_i a h1 sc1 hh
              simp only [Option.some.injEq, Prod.mk.injEq] at h
              obtain ⟨rfl, rfl, rfl⟩ := h
              exact done a h1 (hp _ (by simp))
            · split at h
              · rename_i a h1 sc1 ob1 hv
                simp only [Option.some.injEq, Prod.mk.injEq] at h
                obtain ⟨rfl, rfl, rfl⟩ := h
                exact done a h1 (sVal_ev hrec hv hp)
              · cases h
          · cases h
        · rename_i rv m hcal
          split at h
          · rename_i g recv hg
            split at h
            · rename_i hb
              have done : ∀ a h1, Ev C O (.call g ([recv] ++ c.args.toList.map (evalA s.σ)) s.h) (.val a h1) → (∀ r s2, Ev C O (.ops fn ops r (s.put o.dst a h1)) (.ops s2) → Ev C O (.ops fn ops (i :: r) s) (.ops s2)) ∧
                  ((∀ o', ops[i]? = some o' → BigC C fn o' s.h (s.put o.dst a h1).h) → ∀ r s2, Ev C O (.draws fn ops r (s.put o.dst a h1)) (.ops s2) → Ev C O (.draws fn ops (i :: r) s) (.ops s2)) :=
                fun a h1 hv => ⟨fun r s2 h2 => .invOp fn ops i r s s2 o c rv m g recv a h1 ho hw hop hcal hg (hasBody_eq hb) hv h2,
                  fun hc r s2 h2 => .dinv fn ops i r s s2 o c rv m g recv a h1 ho (by have := hc o ho; rwa [put_h] at this) hw hop hcal hg (hasBody_eq hb) hv h2⟩
              split at h
              · rename_i a h1 sc1 hh
                simp only [Option.some.injEq, Prod.mk.injEq] at h
                obtain ⟨rfl, rfl, rfl⟩ := h
                exact done a h1 (hp _ (by simp))
              · split at h
                · rename_i a h1 sc1 ob1 hv
                  simp only [Option.some.injEq, Prod.mk.injEq] at h
                  obtain ⟨rfl, rfl, rfl⟩ := h
                  exact done a h1 (sVal_ev hrec hv hp)
                · cases h
            · cases h
          · cases h
        · cases h
      · cases h
    · cases h
  · cases h

theorem symRun_ev {rec : RecS} (hrec : RecOK C O rec) : RecOK C O (symRun C O rec) := by
  intro t sc r sc' ob h hp
  cases t with
  | code fn rd c s =>
    cases c with
    | skip => simp only [symRun, Option.some.injEq, Prod.mk.injEq] at h; obtain ⟨rfl, -, -⟩ := h; exact .skip _ _ _
    | label l => simp only [symRun, Option.some.injEq, Prod.mk.injEq] at h; obtain ⟨rfl, -, -⟩ := h; exact .label _ _ _ _
    | exit id => simp only [symRun, Option.some.injEq, Prod.mk.injEq] at h; obtain ⟨rfl, -, -⟩ := h; exact .exit _ _ _ _
    | goto l => simp only [symRun, Option.some.injEq, Prod.mk.injEq] at h; obtain ⟨rfl, -, -⟩ := h; exact .goto _ _ _ _
    | ret => simp only [symRun, Option.some.injEq, Prod.mk.injEq] at h; obtain ⟨rfl, -, -⟩ := h; exact .ret _ _ _
    | region id ops draws =>
      simp only [symRun] at h
      cases draws with
      | true =>
        simp only [if_true] at h
        split at h
        · rename_i hd
          split at h
          · rename_i s' sc1 ob1 e
            simp only [Option.some.injEq, Prod.mk.injEq] at h; obtain ⟨rfl, rfl, rfl⟩ := h
            exact .draw _ _ _ _ _ _ hd (sDraws_ev hrec e hp)
          · cases h
        · cases h
      | false =>
        simp only [Bool.false_eq_true, if_false] at h
        split at h
        · rename_i s' sc1 ob1 e
          simp only [Option.some.injEq, Prod.mk.injEq] at h; obtain ⟨rfl, rfl, rfl⟩ := h
          exact .region _ _ _ _ _ _ (sOps_ev hrec e hp)
        · cases h
    | seq a b =>
      simp only [symRun] at h
      split at h
      · rename_i s1 sc1 ob1 e1
        split at h
        · rename_i t p h' si g sc2 hd
          split at h
          · rename_i av hav
            split at h
            · rename_i x s2 sc3 ob2 e2
              simp only [Option.some.injEq, Prod.mk.injEq] at h; obtain ⟨rfl, rfl, rfl⟩ := h
              obtain ⟨o, ho⟩ := Option.isSome_iff_exists.1 (hp.left.right _ (List.mem_cons_of_mem _ (List.mem_cons_self ..)))
              exact .seq _ _ _ _ _ _ _ _ (sCode_ev hrec e1 hp.left.left) (.freezeIn _ _ _ _ _ _ t av p h' hav (hp.left.right _ (List.mem_cons_self ..)) (.killIn _ _ _ { σ := s1.σ.set t (ofPV p), h := h' } _ _ si g o ho (sCode_ev hrec e2 hp.right)))
            · cases h
          · cases h
        · rename_i t sc2 hd
          split at h
          · rename_i av hav
            split at h
            · rename_i p h' ef
              split at h
              · rename_i x s2 sc3 ob2 e2
                simp only [Option.some.injEq, Prod.mk.injEq] at h; obtain ⟨rfl, rfl, rfl⟩ := h
                exact .seq _ _ _ _ _ _ _ _ (sCode_ev hrec e1 hp.left) (.freezeIn _ _ _ _ _ _ t av p h' hav ef (sCode_ev hrec e2 hp.right))
              · cases h
            · cases h
          · cases h
        · split at h
          · rename_i x s2 sc2 ob2 e2
            simp only [Option.some.injEq, Prod.mk.injEq] at h; obtain ⟨rfl, rfl, rfl⟩ := h
            exact .seq _ _ _ _ _ _ _ _ (sCode_ev hrec e1 hp.left) (sCode_ev hrec e2 hp.right)
          · cases h
      · rename_i x s1 sc1 ob1 hx e1
        simp only [Option.some.injEq, Prod.mk.injEq] at h; obtain ⟨rfl, rfl, rfl⟩ := h
        exact .seqX _ _ _ _ _ _ _ (sCode_ev hrec e1 hp) (fun he => by subst he; exact hx rfl)
      · cases h
    | cond c a b =>
      simp only [symRun] at h
      split at h
      · rename_i t e
        split at h
        · rename_i x s1 sc1 ob1 e1
          simp only [Option.some.injEq, Prod.mk.injEq] at h; obtain ⟨rfl, rfl, rfl⟩ := h
          exact .cond _ _ _ _ _ _ _ _ t e (sCode_ev hrec e1 hp)
        · cases h
      · cases h
    | block id a =>
      simp only [symRun] at h
      split at h
      · rename_i x s1 sc1 ob1 e1
        simp only [Option.some.injEq, Prod.mk.injEq] at h; obtain ⟨rfl, rfl, rfl⟩ := h
        exact .block _ _ _ _ _ _ _ (sCode_ev hrec e1 hp)
      · cases h
    | loop a =>
      simp only [symRun] at h
      split at h
      · rename_i keep x s1 sc1 hh
        simp only [Option.some.injEq, Prod.mk.injEq] at h; obtain ⟨rfl, rfl, rfl⟩ := h
        exact .forget _ _ _ _ _ _ _ (mask_forgets keep s) (hp _ (by simp))
      · split at h
        · rename_i s1 sc1 ob1 e1
          split at h
          · rename_i L keep sc1' hd
            split at h
            · rename_i x s2 sc2 ob2 e2
              simp only [Option.some.injEq, Prod.mk.injEq] at h; obtain ⟨rfl, rfl, rfl⟩ := h
              exact .loop _ _ _ _ _ _ _ (.dropOut _ _ _ _ _ _ L (hp _ (by simp)) (hp _ (by simp)) (hp _ (by simp)) (.forgetOut _ _ _ _ _ _ _ (mask_forgets keep s1) (sCode_ev hrec e1 hp.left.left))) (sCode_ev hrec e2 hp.right)
            · cases h
          · rename_i L keep sc1' hd
            split at h
            · rename_i x s2 sc2 ob2 e2
              simp only [Option.some.injEq, Prod.mk.injEq] at h; obtain ⟨rfl, rfl, rfl⟩ := h
              exact .loop _ _ _ _ _ _ _ (.truncOut _ _ _ _ _ _ L (hp _ (by simp)) (hp _ (by simp)) (hp _ (by simp)) (.forgetOut _ _ _ _ _ _ _ (mask_forgets keep s1) (sCode_ev hrec e1 hp.left.left))) (sCode_ev hrec e2 hp.right)
            · cases h
          · split at h
            · rename_i x s2 sc2 ob2 e2
              simp only [Option.some.injEq, Prod.mk.injEq] at h; obtain ⟨rfl, rfl, rfl⟩ := h
              exact .loop _ _ _ _ _ _ _ (sCode_ev hrec e1 hp.left) (sCode_ev hrec e2 hp.right)
            · cases h
        · rename_i x s1 sc1 ob1 hx e1
          simp only [Option.some.injEq, Prod.mk.injEq] at h; obtain ⟨rfl, rfl, rfl⟩ := h
          exact .loopX _ _ _ _ _ _ (sCode_ev hrec e1 hp) (fun he => by subst he; exact hx rfl)
        · cases h
    | rangeFunc g ps assign body =>
      simp only [symRun] at h
      cases rd with
      | true => simp at h
      | false =>
        simp only [Bool.false_eq_true, if_false] at h
        split at h
        · rename_i keep a h1 sc0 hh
          split at h
          · rename_i f first cap hg
            split at h
            · rename_i hb
              split at h
              · rename_i st pend lf ls lp la lb hl
                split at h
                · cases h
                · rename_i hst
                  simp only [Bool.not_eq_true] at hst
                  split at h
                  · simp only [Option.some.injEq, Prod.mk.injEq] at h; obtain ⟨rfl, rfl, rfl⟩ := h
                    exact .forget _ _ _ _ _ _ _ (mask_forgets keep s) (.rangeFunc0 _ _ _ _ _ (s.mask keep) _ _ _ _ _ _ _ _ _ _ _ _ hg (hasBody_eq hb) (hp _ (List.mem_cons_self ..)) hl (isBusy_ne hst) rfl)
                  · rename_i p
                    split at h
                    · rename_i x s2 sc2 ob2 e2
                      simp only [Option.some.injEq, Prod.mk.injEq] at h; obtain ⟨rfl, rfl, rfl⟩ := h
                      exact .forget _ _ _ _ _ _ _ (mask_forgets keep s) (.rangeFuncJ _ _ _ _ _ (s.mask keep) _ _ _ _ _ _ _ _ _ _ _ _ _ _ _ hg (hasBody_eq hb) (hp _ (List.mem_append_left _ (List.mem_cons_self ..))) hl (isBusy_ne hst) rfl (sCode_ev hrec e2 hp.right))
                    · cases h
              · cases h
            · cases h
          · cases h
        · split at h
          · rename_i f first cap hg
            split at h
            · rename_i hb
              split at h
              · rename_i a h1 sc1 ob1 hv
                split at h
                · rename_i st pend lf ls lp la lb hl
                  split at h
                  · cases h
                  · rename_i hst
                    simp only [Bool.not_eq_true] at hst
                    split at h
                    · simp only [Option.some.injEq, Prod.mk.injEq] at h; obtain ⟨rfl, rfl, rfl⟩ := h
                      exact .rangeFunc0 _ _ _ _ _ _ _ _ _ _ _ _ _ _ _ _ _ _ hg (hasBody_eq hb) (sVal_ev hrec hv hp) hl (isBusy_ne hst) rfl
                    · rename_i p
                      split at h
                      · rename_i x s2 sc2 ob2 e2
                        simp only [Option.some.injEq, Prod.mk.injEq] at h; obtain ⟨rfl, rfl, rfl⟩ := h
                        exact .rangeFuncJ _ _ _ _ _ _ _ _ _ _ _ _ _ _ _ _ _ _ _ _ _ hg (hasBody_eq hb) (sVal_ev hrec hv hp.left) hl (isBusy_ne hst) rfl (sCode_ev hrec e2 hp.right)
                      · cases h
                · cases h
              · cases h
            · cases h
          · cases h
    | _ => simp [symRun] at h
  | ops fn ops l s =>
    cases l with
    | nil => simp only [symRun, Option.some.injEq, Prod.mk.injEq] at h; obtain ⟨rfl, -, -⟩ := h; exact .nil _ _ _
    | cons i r =>
      simp only [symRun] at h
      split at h
      · rename_i s1 sc1 ob1 e1
        split at h
        · rename_i s2 sc2 ob2 e2
          simp only [Option.some.injEq, Prod.mk.injEq] at h; obtain ⟨rfl, rfl, rfl⟩ := h
          split at e1
          · rename_i y e3
            simp only [Option.some.injEq] at e1; subst e1
            exact .step _ _ _ _ _ _ _ (symStep_ev e3 hp.left).1 (sOps_ev hrec e2 hp.right)
          · exact (symCall_ev hrec e1 hp.left).1 _ _ (sOps_ev hrec e2 hp.right)
        · cases h
      · cases h
  | draws fn ops l s =>
    cases l with
    | nil => simp only [symRun, Option.some.injEq, Prod.mk.injEq] at h; obtain ⟨rfl, -, -⟩ := h; exact .dnil _ _ _
    | cons i r =>
      simp only [symRun] at h
      split at h
      · rename_i s1 sc1 ob1 e1
        split at h
        · rename_i s2 sc2 ob2 e2
          simp only [Option.some.injEq, Prod.mk.injEq] at h; obtain ⟨rfl, rfl, rfl⟩ := h
          split at e1
          · rename_i y e3
            simp only [Option.some.injEq] at e1; subst e1
            exact .dstep _ _ _ _ _ _ _ ((symStep_ev e3 hp.left).2 rfl) (sDraws_ev hrec e2 hp.right)
          · split at e1
            · rename_i hc
              exact (symCall_ev hrec e1 hp.left).2 (fun o ho => .inl (by simpa [ho] using hc)) _ _ (sDraws_ev hrec e2 hp.right)
            · split at e1
              · rename_i hc
                unfold addKept at e1
                split at e1
                · rename_i s1' sc1' ob1' e3
                  simp only [Option.some.injEq, Prod.mk.injEq] at e1
                  obtain ⟨rfl, rfl, rfl⟩ := e1
                  exact (symCall_ev hrec e3 hp.left.left).2 (fun o ho => .inr ⟨by simpa [ho] using hc, hp.left _ (by simp)⟩) _ _ (sDraws_ev hrec e2 hp.right)
                · cases e1
              · cases e1
        · cases h
      · cases h
  | call f args h0 =>
    simp only [symRun] at h
    split at h
    · rename_i fd hf
      split at h
      · rename_i c hb
        split at h
        · split at h
          · rename_i s sc1 ob1 e
            split at h
            · rename_i a ha
              simp only [Option.some.injEq, Prod.mk.injEq] at h; obtain ⟨rfl, rfl, rfl⟩ := h
              exact .call _ _ _ fd c _ s a hf hb (sCode_ev hrec e hp) (.inl rfl) ha
            · cases h
          · rename_i s sc1 ob1 e
            split at h
            · rename_i a ha
              simp only [Option.some.injEq, Prod.mk.injEq] at h; obtain ⟨rfl, rfl, rfl⟩ := h
              exact .call _ _ _ fd c _ s a hf hb (sCode_ev hrec e hp) (.inr rfl) ha
            · cases h
          · cases h
        · rename_i c0 id ops o cal fop c2 hs
          obtain ⟨rfl, hz, ho, hgd, hop, hcal⟩ := splitD_eq hs
          split at h
          · rename_i s0 sc1 ob1 e0
            split at h
            · rename_i s1 sc2 ob2 e1
              split at h
              · rename_i g first cap hg
                split at h
                · rename_i hq
                  simp only [Bool.and_eq_true] at hq
                  split at h
                  · rename_i s sc3 ob3 e
                    split at h
                    · rename_i a ha
                      simp only [Option.some.injEq, Prod.mk.injEq] at h; obtain ⟨rfl, rfl, rfl⟩ := h
                      exact .callD _ _ _ fd c0 c2 id ops _ s0 s1 s a o cal fop g first cap hf hb (sCode_ev hrec e0 hp.left.left) (sOps_ev hrec e1 hp.left.right) hz ho hgd hop hcal hg hq.1 (hasBody_eq hq.2) (sCode_ev hrec e hp.right) (.inl rfl) ha
                    · cases h
                  · rename_i s sc3 ob3 e
                    split at h
                    · rename_i a ha
                      simp only [Option.some.injEq, Prod.mk.injEq] at h; obtain ⟨rfl, rfl, rfl⟩ := h
                      exact .callD _ _ _ fd c0 c2 id ops _ s0 s1 s a o cal fop g first cap hf hb (sCode_ev hrec e0 hp.left.left) (sOps_ev hrec e1 hp.left.right) hz ho hgd hop hcal hg hq.1 (hasBody_eq hq.2) (sCode_ev hrec e hp.right) (.inr rfl) ha
                    · cases h
                  · cases h
                · cases h
              · cases h
            · cases h
          · cases h
      · cases h
    · cases h
  | yld ys yg args h0 =>
    simp only [symRun] at h
    split at h
    · rename_i pend fn slots ps assign body hl
      split at h
      · rename_i hn
        split at h
        · rename_i s1 sc1 ob1 e1
          split at h
          · rename_i p1 f1 l1 q1 a1 b1 hl1
            split at h
            · rename_i x s2 sc2 ob2 e2
              split at h
              · rename_i st p2 f2 l2 q2 a2 b2 hl2
                simp only [Option.some.injEq, Prod.mk.injEq] at h; obtain ⟨rfl, rfl, rfl⟩ := h
                exact .yld _ _ _ _ _ _ _ _ _ _ _ s1 s2 x _ _ _ _ _ _ _ _ _ _ _ _ _ hl hn (sCode_ev hrec e1 hp.left) hl1 (sCode_ev hrec e2 hp.right) hl2 rfl
              · cases h
            · cases h
          · cases h
        · cases h
      · cases h
    · cases h

theorem sym_ev : ∀ (n : Nat), RecOK C O (sym C O n)
  | 0 => fun t sc r sc' ob h => by simp [sym] at h
  | n + 1 => symRun_ev (sym_ev n)

/-- the result, but for slots that are forgotten -/
def symM (C : Ctx) (O : Task → Res → Prop) (n : Nat) (fn : FuncId) (rd : Bool) (c : Code) (s : St) (sc : Script) (keep : List Nat) : SM (X × St) :=
  match sym C O n (.code fn rd c s) sc with
  | some (.code x s1, sc', ob) => some ((x, s1.mask keep), sc', ob)
  | _ => none
theorem symM_ev {n : Nat} {fn : FuncId} {rd : Bool} {c : Code} {s s1 : St} {x : X} {sc sc' : Script} {keep : List Nat} {ob : List Prop} (h : symM C O n fn rd c s sc keep = some ((x, s1), sc', ob)) (hp : AllP ob) :
    Ev C O (.code fn rd c s) (.code x s1) := by
  unfold symM at h
  split at h
  · rename_i x1 s2 sc1 ob1 e
    simp only [Option.some.injEq, Prod.mk.injEq] at h
    obtain ⟨⟨rfl, rfl⟩, rfl, rfl⟩ := h
    exact .forgetOut _ _ _ _ _ _ _ (mask_forgets keep s2) (sym_ev n _ _ _ _ _ e hp)
  · cases h

/-- the same, and sites taken out of the heap -/
def symD (C : Ctx) (O : Task → Res → Prop) (n : Nat) (fn : FuncId) (rd : Bool) (c : Code) (s : St) (sc : Script) (keep L : List Nat) : SM (X × St) :=
  match symM C O n fn rd c s sc keep with
  | some ((x, s1), sc', ob) => some ((x, { σ := s1.σ, h := s1.h.drop L }), sc', ob ++ [hNone L s.h = true, hFree L s1.h = true, avFreeL L s1.σ = true])
  | none => none
theorem symD_ev {n : Nat} {fn : FuncId} {rd : Bool} {c : Code} {s s1 : St} {x : X} {sc sc' : Script} {keep L : List Nat} {ob : List Prop} (h : symD C O n fn rd c s sc keep L = some ((x, s1), sc', ob)) (hp : AllP ob) :
    Ev C O (.code fn rd c s) (.code x s1) := by
  unfold symD at h
  split at h
  · rename_i x1 s2 sc1 ob1 e
    simp only [Option.some.injEq, Prod.mk.injEq] at h
    obtain ⟨⟨rfl, rfl⟩, rfl, rfl⟩ := h
    exact .dropOut _ _ _ _ _ _ L (hp _ (by simp)) (hp _ (by simp)) (hp _ (by simp)) (symM_ev e hp.left)
  · cases h

/-- a call, its results by value -/
def symT (C : Ctx) (O : Task → Res → Prop) (n : Nat) (fn : FuncId) (rd : Bool) (c : Code) (s : St) (sc : Script) (keep : List Nat) (L : List (Nat × Nat)) : SM (X × St) :=
  match symM C O n fn rd c s sc keep with
  | some ((x, s1), sc', ob) => some ((x, { σ := s1.σ, h := s1.h.trunc L }), sc', ob ++ [hKeep L s.h = true, hFreeT L s1.h = true, avFreeTL L s1.σ = true])
  | none => none
theorem symT_ev {n : Nat} {fn : FuncId} {rd : Bool} {c : Code} {s s1 : St} {x : X} {sc sc' : Script} {keep : List Nat} {L : List (Nat × Nat)} {ob : List Prop} (h : symT C O n fn rd c s sc keep L = some ((x, s1), sc', ob)) (hp : AllP ob) :
    Ev C O (.code fn rd c s) (.code x s1) := by
  unfold symT at h
  split at h
  · rename_i x1 s2 sc1 ob1 e
    simp only [Option.some.injEq, Prod.mk.injEq] at h
    obtain ⟨⟨rfl, rfl⟩, rfl, rfl⟩ := h
    exact .truncOut _ _ _ _ _ _ L (hp _ (by simp)) (hp _ (by simp)) (hp _ (by simp)) (symM_ev e hp.left)
  · cases h
def symV (C : Ctx) (O : Task → Res → Prop) (n : Nat) (g : FuncId) (ps : List PV) (sc : Script) : SM (List PV) :=
  match sym C O n (.call g (ps.map ofPV) {}) sc with
  | some (.val a h1, sc', ob) => match resA h1 a with
    | some (rs, _) => some (rs, sc', ob)
    | none => none
  | _ => none
theorem symV_ev {n : Nat} {g : FuncId} {ps rs : List PV} {sc sc' : Script} {ob : List Prop} (h : symV C O n g ps sc = some (rs, sc', ob)) (hp : AllP ob) :
    ∃ a h1 h2, Ev C O (.call g (ps.map ofPV) {}) (.val a h1) ∧ resA h1 a = some (rs, h2) := by
  unfold symV at h
  split at h
  · rename_i a h1 sc1 ob1 e
    split at h
    · rename_i rs1 h2 er
      simp only [Option.some.injEq, Prod.mk.injEq] at h
      obtain ⟨rfl, rfl, rfl⟩ := h
      exact ⟨a, h1, h2, sym_ev n _ _ _ _ _ e hp, er⟩
    · cases h
  · cases h

/-- the k-th loop of a code, and what is behind -/
def findLoop : Code → Nat → Nat ⊕ Code
  | .loop a, 0 => .inr (.loop a)
  | .loop a, k + 1 => findLoop a k
  | .seq a b, k => match findLoop a k with
    | .inl k' => findLoop b k'
    | r => r
  | .cond _ a b, k => match findLoop a k with
    | .inl k' => findLoop b k'
    | r => r
  | .block _ a, k => findLoop a k
  | .rangeFunc _ _ a b, k => match findLoop a k with
    | .inl k' => findLoop b k'
    | r => r
  | _, k => .inl k
def loopOf (P : Program) (f : FuncId) (k : Nat) : Code := match P.funcs[f]? with
  | some fd => match fd.body with
    | some c => match findLoop c k with
      | .inr l => l
      | .inl _ => .skip
    | none => .skip
  | none => .skip

/-- a loop's first region, and what is behind it -/
def loopOps (P : Program) (f k : Nat) : Array Oper := match loopOf P f k with
  | .loop (.seq (.region _ ops _) _) => ops
  | _ => #[]
def loopTail (P : Program) (f k : Nat) : Code := match loopOf P f k with
  | .loop (.seq (.region _ _ _) b) => b
  | c => c

theorem AllP_nil : AllP [] := fun p hp => by cases hp
theorem AllP_cons {p : Prop} {l : List Prop} (h : p) (hl : AllP l) : AllP (p :: l) := fun q hq => by
  rcases List.mem_cons.1 hq with rfl | hq
  · exact h
  · exact hl q hq

end Go.Ev

namespace Go.Ev
open Go Go.RowKit

/-- what the program that computes comes to, by value -/
def runSpec (C : Ctx) (n : Nat) (g : FuncId) (ps : List PV) : Option (List PV) :=
  match run C n (.call g (ps.map ofPV) {}) with
  | some (.val a h1) => match resA h1 a with
    | some (rs, _) => some rs
    | none => none
  | _ => none
theorem sat_runSpec {C : Ctx} (hP : PrimOK C) (hm : C.P.follows .mixedOrders = true) (n : Nat) (g : FuncId) : Sat C g (runSpec C n g) :=
  sat_of_run hP hm fun ps rs hs => by
    unfold runSpec at hs
    split at hs
    · rename_i a h1 e
      split at hs
      · rename_i rs' h2 e2
        simp only [Option.some.injEq] at hs
        subst hs
        exact ⟨n, a, h1, h2, e, e2⟩
      · cases hs
    · cases hs
/-- the context in which some functions are known by what the program that computes tells in another one -/
def addRun (C : Ctx) (n : Nat) (L : List FuncId) : Ctx := { C with prim := fun g => if L.contains g && hasBody C g then some (runSpec C n g) else C.prim g }
theorem addRun_ok {C : Ctx} (hP : PrimOK C) (hm : C.P.follows .mixedOrders = true) (n : Nat) (L : List FuncId) : PrimOK (addRun C n L) := by
  refine ⟨?_, hP.2⟩
  intro g spec h
  simp only [addRun] at h
  split at h
  · rename_i hc
    simp only [Option.some.injEq] at h
    subst h
    simp only [Bool.and_eq_true] at hc
    exact ⟨(sat_runSpec hP hm n g).ctx rfl rfl, hasBody_eq hc.2⟩
  · obtain ⟨h1, h2⟩ := hP.1 g spec h
    exact ⟨h1.ctx rfl rfl, h2⟩

end Go.Ev
